/- wheel.place, wheel.fits; usherref.PlaceOf, TimerMay, timerAhead. -/
import Derived.Test.YthgfiadfpgfjdaaWhL
import Derived.Test.YthgfiadfpgfjdaaIn
import Derived.Test.YthgfiadfpgfjdaaOwn
import Derived.Deep.QuietTactic
import Derived.BigQuiet
namespace Go.Proofs.Ythgfiadfpgfjdaa
open Go.RowKit
theorem placeN_1 {a n : Nat} (h : a / 8 = n / 8) : placeN a n = a % 8 := by unfold placeN; rw [if_pos h]
theorem placeN_2 {a n : Nat} (h : ¬ a / 8 = n / 8) (h2 : a / 64 = n / 64) : placeN a n = 8 + a / 8 % 8 := by unfold placeN; rw [if_neg h, if_pos h2]
theorem placeN_3 {a n : Nat} (h : ¬ a / 8 = n / 8) (h2 : ¬ a / 64 = n / 64) (h3 : a / 512 = n / 512) : placeN a n = 16 + a / 64 % 8 := by unfold placeN; rw [if_neg h, if_neg h2, if_pos h3]
theorem placeN_4 {a n : Nat} (h : ¬ a / 8 = n / 8) (h2 : ¬ a / 64 = n / 64) (h3 : ¬ a / 512 = n / 512) : placeN a n = 24 := by unfold placeN; rw [if_neg h, if_neg h2, if_neg h3]
set_option maxHeartbeats 2000000 in
theorem prog_place (a n : Nat) (w : World) (ha : a ≤ 2199023255552) (hn : n ≤ 2199023255552) : Calls Try.prog 25 #[.int .i64 a, .int .i64 n] w fun e w' => e = .returned (.int .i64 (placeN a n : Nat)) ∧ Below w.heap.size w w' := by
  obtain ⟨p, hp⟩ : ∃ p, p = placeN a n := ⟨_, rfl⟩
  rw [← hp]
  have b1 : (a : Int) ≤ 2199023255552 := by omega
  have b2 : (n : Int) ≤ 2199023255552 := by omega
  have b3 : (0 : Int) ≤ (a : Int) := by omega
  have b4 : (0 : Int) ≤ (n : Int) := by omega
  by_cases h1 : a / 8 = n / 8
  · have HP := Lib.hid (show ((a : Int) % 8) = (p : Int) by rw [hp, placeN_1 h1]; omega)
    have e1 : ((a : Int) / 8 == (n : Int) / 8) = true := by rw [beq_iff_eq]; omega
    have e2 : (a : Int) / 8 = (n : Int) / 8 := by omega
    clear hp h1 ha hn
    go_enter Try.func25, Try.ntmps25
    go_wp2
    refine wp_loop_rounds 4 ?_
    (rw [rounds_succ]; go_wp2; go_quiet (fail); go_wp2)
    all_goals first | (go_ret; exact ⟨rI (by first | exact HP.out | (have := HP.out; simp; omega) | (have := HP.out; omega)), (by repeat (first | (with_reducible exact Below.refl _ _) | (with_reducible assumption) | (with_reducible refine Below.drew ?_) | (with_reducible refine Below_drewN ?_) | (with_reducible refine Below.alloc ?_ (by first | omega | (simp; done) | (simp; omega)) _) | (with_reducible refine Below.setCell ?_ (by first | omega | (simp; done) | (simp; omega)) _) | (with_reducible refine Below.trans ?_ (Below.mono (by assumption) (by first | omega | (simp; done) | (simp; omega))))))⟩) | (exfalso; first | omega | (simp at *; omega) | (simp at *; done))
  · by_cases h2 : a / 64 = n / 64
    · have HP := Lib.hid (show (8 + (a : Int) / 8 % 8) = (p : Int) by rw [hp, placeN_2 h1 h2]; omega)
      have e1 : ((a : Int) / 8 == (n : Int) / 8) = false := by rw [beq_eq_false_iff_ne]; omega
      have e2 : ¬ (a : Int) / 8 = (n : Int) / 8 := by omega
      have e3 : ((a : Int) / 64 == (n : Int) / 64) = true := by rw [beq_iff_eq]; omega
      have e4 : (a : Int) / 64 = (n : Int) / 64 := by omega
      clear hp h1 h2 ha hn
      go_enter Try.func25, Try.ntmps25
      go_wp2
      refine wp_loop_rounds 4 ?_
      (rw [rounds_succ]; go_wp2; go_quiet (fail); go_wp2)
      (rw [rounds_succ]; go_wp2; go_quiet (fail); go_wp2)
      all_goals first | (go_ret; exact ⟨rI (by first | exact HP.out | (have := HP.out; simp; omega) | (have := HP.out; omega)), (by repeat (first | (with_reducible exact Below.refl _ _) | (with_reducible assumption) | (with_reducible refine Below.drew ?_) | (with_reducible refine Below_drewN ?_) | (with_reducible refine Below.alloc ?_ (by first | omega | (simp; done) | (simp; omega)) _) | (with_reducible refine Below.setCell ?_ (by first | omega | (simp; done) | (simp; omega)) _) | (with_reducible refine Below.trans ?_ (Below.mono (by assumption) (by first | omega | (simp; done) | (simp; omega))))))⟩) | (exfalso; first | omega | (simp at *; omega) | (simp at *; done))
    · by_cases h3 : a / 512 = n / 512
      · have HP := Lib.hid (show (16 + (a : Int) / 64 % 8) = (p : Int) by rw [hp, placeN_3 h1 h2 h3]; omega)
        have e1 : ((a : Int) / 8 == (n : Int) / 8) = false := by rw [beq_eq_false_iff_ne]; omega
        have e2 : ¬ (a : Int) / 8 = (n : Int) / 8 := by omega
        have e3 : ((a : Int) / 64 == (n : Int) / 64) = false := by rw [beq_eq_false_iff_ne]; omega
        have e4 : ¬ (a : Int) / 64 = (n : Int) / 64 := by omega
        have e5 : ((a : Int) / 512 == (n : Int) / 512) = true := by rw [beq_iff_eq]; omega
        have e6 : (a : Int) / 512 = (n : Int) / 512 := by omega
        clear hp h1 h2 h3 ha hn
        go_enter Try.func25, Try.ntmps25
        go_wp2
        refine wp_loop_rounds 4 ?_
        (rw [rounds_succ]; go_wp2; go_quiet (fail); go_wp2)
        (rw [rounds_succ]; go_wp2; go_quiet (fail); go_wp2)
        (rw [rounds_succ]; go_wp2; go_quiet (fail); go_wp2)
        all_goals first | (go_ret; exact ⟨rI (by first | exact HP.out | (have := HP.out; simp; omega) | (have := HP.out; omega)), (by repeat (first | (with_reducible exact Below.refl _ _) | (with_reducible assumption) | (with_reducible refine Below.drew ?_) | (with_reducible refine Below_drewN ?_) | (with_reducible refine Below.alloc ?_ (by first | omega | (simp; done) | (simp; omega)) _) | (with_reducible refine Below.setCell ?_ (by first | omega | (simp; done) | (simp; omega)) _) | (with_reducible refine Below.trans ?_ (Below.mono (by assumption) (by first | omega | (simp; done) | (simp; omega))))))⟩) | (exfalso; first | omega | (simp at *; omega) | (simp at *; done))
      · have HP := Lib.hid (show (24 : Int) = (p : Int) by rw [hp, placeN_4 h1 h2 h3]; rfl)
        have e1 : ((a : Int) / 8 == (n : Int) / 8) = false := by rw [beq_eq_false_iff_ne]; omega
        have e2 : ¬ (a : Int) / 8 = (n : Int) / 8 := by omega
        have e3 : ((a : Int) / 64 == (n : Int) / 64) = false := by rw [beq_eq_false_iff_ne]; omega
        have e4 : ¬ (a : Int) / 64 = (n : Int) / 64 := by omega
        have e5 : ((a : Int) / 512 == (n : Int) / 512) = false := by rw [beq_eq_false_iff_ne]; omega
        have e6 : ¬ (a : Int) / 512 = (n : Int) / 512 := by omega
        clear hp h1 h2 h3 ha hn
        go_enter Try.func25, Try.ntmps25
        go_wp2
        refine wp_loop_rounds 4 ?_
        (rw [rounds_succ]; go_wp2; go_quiet (fail); go_wp2)
        (rw [rounds_succ]; go_wp2; go_quiet (fail); go_wp2)
        (rw [rounds_succ]; go_wp2; go_quiet (fail); go_wp2)
        (rw [rounds_succ]; go_wp2)
        all_goals first | (go_ret; exact ⟨rI (by first | exact HP.out | (have := HP.out; simp; omega) | (have := HP.out; omega)), (by repeat (first | (with_reducible exact Below.refl _ _) | (with_reducible assumption) | (with_reducible refine Below.drew ?_) | (with_reducible refine Below_drewN ?_) | (with_reducible refine Below.alloc ?_ (by first | omega | (simp; done) | (simp; omega)) _) | (with_reducible refine Below.setCell ?_ (by first | omega | (simp; done) | (simp; omega)) _) | (with_reducible refine Below.trans ?_ (Below.mono (by assumption) (by first | omega | (simp; done) | (simp; omega))))))⟩) | (exfalso; first | omega | (simp at *; omega) | (simp at *; done))
set_option maxHeartbeats 2000000 in
theorem ref_PlaceOf (a n : Nat) (w : World) (ha : a ≤ 2199023255552) (hn : n ≤ 2199023255552) : Calls Try.prog 34 #[.int .i64 a, .int .i64 n] w fun e w' => e = .returned (.int .i64 (placeN a n : Nat)) ∧ w' = w := by
  obtain ⟨p, hp⟩ : ∃ p, p = placeN a n := ⟨_, rfl⟩
  rw [← hp]
  have b1 : (a : Int) ≤ 2199023255552 := by omega
  have b2 : (n : Int) ≤ 2199023255552 := by omega
  have b3 : (0 : Int) ≤ (a : Int) := by omega
  have b4 : (0 : Int) ≤ (n : Int) := by omega
  by_cases h1 : a / 8 = n / 8
  · have HP := Lib.hid (show ((a : Int) % 8) = (p : Int) by rw [hp, placeN_1 h1]; omega)
    have e2 : (a : Int) / 8 = (n : Int) / 8 := by omega
    clear hp h1 ha hn
    go_enter Try.func34, Try.ntmps34
    go_wp2
    all_goals first | (go_ret; exact ⟨rI (by first | exact HP.out | (have := HP.out; simp; omega) | (have := HP.out; omega)), rfl⟩) | (exfalso; first | omega | (simp at *; omega) | (simp at *; done))
  · have e2 : ¬ (a : Int) / 8 = (n : Int) / 8 := by omega
    by_cases h2 : a / 64 = n / 64
    · have HP := Lib.hid (show (8 + (a : Int) / 8 % 8) = (p : Int) by rw [hp, placeN_2 h1 h2]; omega)
      have e4 : (a : Int) / 64 = (n : Int) / 64 := by omega
      clear hp h1 h2 ha hn
      go_enter Try.func34, Try.ntmps34
      go_wp2
      all_goals first | (go_ret; exact ⟨rI (by first | exact HP.out | (have := HP.out; simp; omega) | (have := HP.out; omega)), rfl⟩) | (exfalso; first | omega | (simp at *; omega) | (simp at *; done))
    · have e4 : ¬ (a : Int) / 64 = (n : Int) / 64 := by omega
      by_cases h3 : a / 512 = n / 512
      · have HP := Lib.hid (show (16 + (a : Int) / 64 % 8) = (p : Int) by rw [hp, placeN_3 h1 h2 h3]; omega)
        have e6 : (a : Int) / 512 = (n : Int) / 512 := by omega
        clear hp h1 h2 h3 ha hn
        go_enter Try.func34, Try.ntmps34
        go_wp2
        all_goals first | (go_ret; exact ⟨rI (by first | exact HP.out | (have := HP.out; simp; omega) | (have := HP.out; omega)), rfl⟩) | (exfalso; first | omega | (simp at *; omega) | (simp at *; done))
      · have HP := Lib.hid (show (24 : Int) = (p : Int) by rw [hp, placeN_4 h1 h2 h3]; rfl)
        have e6 : ¬ (a : Int) / 512 = (n : Int) / 512 := by omega
        clear hp h1 h2 h3 ha hn
        go_enter Try.func34, Try.ntmps34
        go_wp2
        all_goals first | (go_ret; exact ⟨rI (by first | exact HP.out | (have := HP.out; simp; omega) | (have := HP.out; omega)), rfl⟩) | (exfalso; first | omega | (simp at *; omega) | (simp at *; done))
set_option maxHeartbeats 2000000 in
theorem prog_fits (t : Tm) (now : Int) (w : World) (h0 : 0 ≤ now) (h1 : now ≤ 1099511627776) (r : Bool) (hr : (TmMay t now ∧ r = true) ∨ (¬ TmMay t now ∧ r = false)) : Calls Try.prog 16 #[.agg #[.int .i64 t.at_, .int .i64 t.id], .int .i64 now] w fun e w' => e = .returned (.bool r) ∧ Below w.heap.size w w' := by
  obtain ⟨x, y⟩ := t
  simp only [TmMay] at hr
  rcases (show ((¬ now < x)) ∨ ((now < x) ∧ (¬ x ≤ now + 500)) ∨ ((now < x) ∧ (x ≤ now + 500) ∧ (¬ x ≤ 1099511627776)) ∨ ((now < x) ∧ (x ≤ now + 500) ∧ (x ≤ 1099511627776) ∧ (¬ 0 ≤ y)) ∨ ((now < x) ∧ (x ≤ now + 500) ∧ (x ≤ 1099511627776) ∧ (0 ≤ y) ∧ (¬ y < 200)) ∨ ((now < x) ∧ (x ≤ now + 500) ∧ (x ≤ 1099511627776) ∧ (0 ≤ y) ∧ (y < 200)) by (rcases (show (¬ now < x) ∨ (now < x) by omega) with hx0 | hx0; exact Or.inl hx0; (rcases (show (¬ x ≤ now + 500) ∨ (x ≤ now + 500) by omega) with hx1 | hx1; exact Or.inr (Or.inl ⟨hx0, hx1⟩); (rcases (show (¬ x ≤ 1099511627776) ∨ (x ≤ 1099511627776) by omega) with hx2 | hx2; exact Or.inr (Or.inr (Or.inl ⟨hx0, hx1, hx2⟩)); (rcases (show (¬ 0 ≤ y) ∨ (0 ≤ y) by omega) with hx3 | hx3; exact Or.inr (Or.inr (Or.inr (Or.inl ⟨hx0, hx1, hx2, hx3⟩))); (rcases (show (¬ y < 200) ∨ (y < 200) by omega) with hx4 | hx4; exact Or.inr (Or.inr (Or.inr (Or.inr (Or.inl ⟨hx0, hx1, hx2, hx3, hx4⟩)))); exact Or.inr (Or.inr (Or.inr (Or.inr (Or.inr (⟨hx0, hx1, hx2, hx3, hx4⟩))))))))))) with hs0 | ⟨hs0, hs1⟩ | ⟨hs0, hs1, hs2⟩ | ⟨hs0, hs1, hs2, hs3⟩ | ⟨hs0, hs1, hs2, hs3, hs4⟩ | ⟨hs0, hs1, hs2, hs3, hs4⟩
  · have : r = false := by rcases hr with ⟨h, _⟩ | ⟨_, h⟩; omega; exact h
    subst this; clear hr
    go_enter Try.func16, Try.ntmps16
    go_wp2
    all_goals first | (go_ret; exact ⟨rfl, (by repeat (first | (with_reducible exact Below.refl _ _) | (with_reducible assumption) | (with_reducible refine Below.drew ?_) | (with_reducible refine Below_drewN ?_) | (with_reducible refine Below.alloc ?_ (by first | omega | (simp; done) | (simp; omega)) _) | (with_reducible refine Below.setCell ?_ (by first | omega | (simp; done) | (simp; omega)) _) | (with_reducible refine Below.trans ?_ (Below.mono (by assumption) (by first | omega | (simp; done) | (simp; omega))))))⟩) | (exfalso; first | omega | (simp at *; omega) | (simp at *; done))
  · have : r = false := by rcases hr with ⟨h, _⟩ | ⟨_, h⟩; omega; exact h
    subst this; clear hr
    have d0 : decide (x ≤ now + 500) = false := by simpa using hs1
    go_enter Try.func16, Try.ntmps16
    go_wp2
    all_goals first | (go_ret; exact ⟨rfl, (by repeat (first | (with_reducible exact Below.refl _ _) | (with_reducible assumption) | (with_reducible refine Below.drew ?_) | (with_reducible refine Below_drewN ?_) | (with_reducible refine Below.alloc ?_ (by first | omega | (simp; done) | (simp; omega)) _) | (with_reducible refine Below.setCell ?_ (by first | omega | (simp; done) | (simp; omega)) _) | (with_reducible refine Below.trans ?_ (Below.mono (by assumption) (by first | omega | (simp; done) | (simp; omega))))))⟩) | (exfalso; first | omega | (simp at *; omega) | (simp at *; done))
  · have : r = false := by rcases hr with ⟨h, _⟩ | ⟨_, h⟩; omega; exact h
    subst this; clear hr
    have d0 : decide (x ≤ 1099511627776) = false := by simpa using hs2
    go_enter Try.func16, Try.ntmps16
    go_wp2
    all_goals first | (go_ret; exact ⟨rfl, (by repeat (first | (with_reducible exact Below.refl _ _) | (with_reducible assumption) | (with_reducible refine Below.drew ?_) | (with_reducible refine Below_drewN ?_) | (with_reducible refine Below.alloc ?_ (by first | omega | (simp; done) | (simp; omega)) _) | (with_reducible refine Below.setCell ?_ (by first | omega | (simp; done) | (simp; omega)) _) | (with_reducible refine Below.trans ?_ (Below.mono (by assumption) (by first | omega | (simp; done) | (simp; omega))))))⟩) | (exfalso; first | omega | (simp at *; omega) | (simp at *; done))
  · have : r = false := by rcases hr with ⟨h, _⟩ | ⟨_, h⟩; omega; exact h
    subst this; clear hr
    have d0 : decide (0 ≤ y) = false := by simpa using hs3
    go_enter Try.func16, Try.ntmps16
    go_wp2
    all_goals first | (go_ret; exact ⟨rfl, (by repeat (first | (with_reducible exact Below.refl _ _) | (with_reducible assumption) | (with_reducible refine Below.drew ?_) | (with_reducible refine Below_drewN ?_) | (with_reducible refine Below.alloc ?_ (by first | omega | (simp; done) | (simp; omega)) _) | (with_reducible refine Below.setCell ?_ (by first | omega | (simp; done) | (simp; omega)) _) | (with_reducible refine Below.trans ?_ (Below.mono (by assumption) (by first | omega | (simp; done) | (simp; omega))))))⟩) | (exfalso; first | omega | (simp at *; omega) | (simp at *; done))
  · have : r = false := by rcases hr with ⟨h, _⟩ | ⟨_, h⟩; omega; exact h
    subst this; clear hr
    have d0 : decide (y < 200) = false := by simpa using hs4
    go_enter Try.func16, Try.ntmps16
    go_wp2
    all_goals first | (go_ret; exact ⟨rfl, (by repeat (first | (with_reducible exact Below.refl _ _) | (with_reducible assumption) | (with_reducible refine Below.drew ?_) | (with_reducible refine Below_drewN ?_) | (with_reducible refine Below.alloc ?_ (by first | omega | (simp; done) | (simp; omega)) _) | (with_reducible refine Below.setCell ?_ (by first | omega | (simp; done) | (simp; omega)) _) | (with_reducible refine Below.trans ?_ (Below.mono (by assumption) (by first | omega | (simp; done) | (simp; omega))))))⟩) | (exfalso; first | omega | (simp at *; omega) | (simp at *; done))
  · have : r = true := by rcases hr with ⟨_, h⟩ | ⟨h, _⟩; exact h; omega
    subst this; clear hr
    go_enter Try.func16, Try.ntmps16
    go_wp2
    all_goals first | (go_ret; exact ⟨rfl, (by repeat (first | (with_reducible exact Below.refl _ _) | (with_reducible assumption) | (with_reducible refine Below.drew ?_) | (with_reducible refine Below_drewN ?_) | (with_reducible refine Below.alloc ?_ (by first | omega | (simp; done) | (simp; omega)) _) | (with_reducible refine Below.setCell ?_ (by first | omega | (simp; done) | (simp; omega)) _) | (with_reducible refine Below.trans ?_ (Below.mono (by assumption) (by first | omega | (simp; done) | (simp; omega))))))⟩) | (exfalso; first | omega | (simp at *; omega) | (simp at *; done))
set_option maxHeartbeats 2000000 in
theorem ref_TimerMay (t : Tm) (now : Int) (w : World) (h0 : 0 ≤ now) (h1 : now ≤ 1099511627776) (r : Bool) (hr : (TmMay t now ∧ r = true) ∨ (¬ TmMay t now ∧ r = false)) : Calls Try.prog 20 #[.agg #[.int .i64 t.at_, .int .i64 t.id], .int .i64 now] w fun e w' => e = .returned (.bool r) ∧ Below w.heap.size w w' := by
  obtain ⟨x, y⟩ := t
  simp only [TmMay] at hr
  rcases (show ¬ (0 ≤ x ∧ x ≤ 1099511627776) ∨ ((0 ≤ x ∧ x ≤ 1099511627776) ∧ ¬ (1 ≤ x - now ∧ x - now ≤ 500)) ∨ ((0 ≤ x ∧ x ≤ 1099511627776) ∧ (1 ≤ x - now ∧ x - now ≤ 500) ∧ ¬ (0 ≤ y ∧ y ≤ 199)) ∨ ((0 ≤ x ∧ x ≤ 1099511627776) ∧ (1 ≤ x - now ∧ x - now ≤ 500) ∧ (0 ≤ y ∧ y ≤ 199)) by omega) with h | ⟨⟨g1, g2⟩, h⟩ | ⟨⟨g1, g2⟩, ⟨g3, g4⟩, h⟩ | ⟨⟨g1, g2⟩, ⟨g3, g4⟩, g5, g6⟩
  · have : r = false := by rcases hr with ⟨h, _⟩ | ⟨_, h⟩; omega; exact h
    subst this; clear hr
    go_enter Try.func20, Try.ntmps20
    go_wp2_with (go_at_call 33; first | (refine (In_yes _ _ _ _ (by omega) (by omega)).mono ?_; rintro e w' ⟨rfl, rfl⟩) | (refine (In_no _ _ _ _ (by omega)).mono ?_; rintro e w' ⟨rfl, rfl⟩))
    all_goals first | (go_ret; exact ⟨rfl, (by repeat (first | (with_reducible exact Below.refl _ _) | (with_reducible assumption) | (with_reducible refine Below.drew ?_) | (with_reducible refine Below_drewN ?_) | (with_reducible refine Below.alloc ?_ (by first | omega | (simp; done) | (simp; omega)) _) | (with_reducible refine Below.setCell ?_ (by first | omega | (simp; done) | (simp; omega)) _) | (with_reducible refine Below.trans ?_ (Below.mono (by assumption) (by first | omega | (simp; done) | (simp; omega))))))⟩) | (exfalso; first | omega | (simp at *; omega) | (simp at *; done))
  · have : r = false := by rcases hr with ⟨h, _⟩ | ⟨_, h⟩; omega; exact h
    subst this; clear hr
    go_enter Try.func20, Try.ntmps20
    go_wp2_with (go_at_call 33; first | (refine (In_yes _ _ _ _ (by omega) (by omega)).mono ?_; rintro e w' ⟨rfl, rfl⟩) | (refine (In_no _ _ _ _ (by omega)).mono ?_; rintro e w' ⟨rfl, rfl⟩))
    all_goals first | (go_ret; exact ⟨rfl, (by repeat (first | (with_reducible exact Below.refl _ _) | (with_reducible assumption) | (with_reducible refine Below.drew ?_) | (with_reducible refine Below_drewN ?_) | (with_reducible refine Below.alloc ?_ (by first | omega | (simp; done) | (simp; omega)) _) | (with_reducible refine Below.setCell ?_ (by first | omega | (simp; done) | (simp; omega)) _) | (with_reducible refine Below.trans ?_ (Below.mono (by assumption) (by first | omega | (simp; done) | (simp; omega))))))⟩) | (exfalso; first | omega | (simp at *; omega) | (simp at *; done))
  · have : r = false := by rcases hr with ⟨h, _⟩ | ⟨_, h⟩; omega; exact h
    subst this; clear hr
    go_enter Try.func20, Try.ntmps20
    go_wp2_with (go_at_call 33; first | (refine (In_yes _ _ _ _ (by omega) (by omega)).mono ?_; rintro e w' ⟨rfl, rfl⟩) | (refine (In_no _ _ _ _ (by omega)).mono ?_; rintro e w' ⟨rfl, rfl⟩))
    all_goals first | (go_ret; exact ⟨rfl, (by repeat (first | (with_reducible exact Below.refl _ _) | (with_reducible assumption) | (with_reducible refine Below.drew ?_) | (with_reducible refine Below_drewN ?_) | (with_reducible refine Below.alloc ?_ (by first | omega | (simp; done) | (simp; omega)) _) | (with_reducible refine Below.setCell ?_ (by first | omega | (simp; done) | (simp; omega)) _) | (with_reducible refine Below.trans ?_ (Below.mono (by assumption) (by first | omega | (simp; done) | (simp; omega))))))⟩) | (exfalso; first | omega | (simp at *; omega) | (simp at *; done))
  · have : r = true := by rcases hr with ⟨_, h⟩ | ⟨h, _⟩; exact h; omega
    subst this; clear hr
    go_enter Try.func20, Try.ntmps20
    go_wp2_with (go_at_call 33; first | (refine (In_yes _ _ _ _ (by omega) (by omega)).mono ?_; rintro e w' ⟨rfl, rfl⟩) | (refine (In_no _ _ _ _ (by omega)).mono ?_; rintro e w' ⟨rfl, rfl⟩))
    all_goals first | (go_ret; exact ⟨rfl, (by repeat (first | (with_reducible exact Below.refl _ _) | (with_reducible assumption) | (with_reducible refine Below.drew ?_) | (with_reducible refine Below_drewN ?_) | (with_reducible refine Below.alloc ?_ (by first | omega | (simp; done) | (simp; omega)) _) | (with_reducible refine Below.setCell ?_ (by first | omega | (simp; done) | (simp; omega)) _) | (with_reducible refine Below.trans ?_ (Below.mono (by assumption) (by first | omega | (simp; done) | (simp; omega))))))⟩) | (exfalso; first | omega | (simp at *; omega) | (simp at *; done))
end Go.Proofs.Ythgfiadfpgfjdaa
