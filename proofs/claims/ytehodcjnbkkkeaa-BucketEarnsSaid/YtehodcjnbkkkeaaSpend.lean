/- Walks of BucketSpends and BucketEarns. -/
import Derived.Test.YtehodcjnbkkkeaaBucket
import Derived.Deep.RegionWith
import Derived.Deep.RegionHeld3
import Derived.Deep.QuietTactic
import Derived.BigQuiet
namespace Go.Proofs.Ytehodcjnbkkkeaa
open Go.RowKit

set_option maxHeartbeats 4000000 in
theorem prog_open_ok (a b c t : Int) (w : World) (h : BudMay a b c) (ht : 0 ≤ t ∧ t ≤ c * b) : Calls Try.prog 69 #[.agg #[.int .i64 a, .int .i64 b, .int .i64 c], .agg #[.int .i64 t]] w fun e w' => e = .returned (.int .i64 0) ∧ Below w.heap.size w w' := by
  have h' := Lib.hid h
  obtain ⟨h1, h2, h3, h4, h5, h6⟩ := h
  obtain ⟨t1, t2⟩ := ht
  obtain ⟨c1, c2⟩ := mul_bd2 (a := c) (d := b) (A := 20) (D := 20) (by omega) (by omega) (by omega) (by omega)
  have hd : decide (t < 0) = false := by simp; omega
  go_enter Try.func69, Try.ntmps69
  go_wp2_with (first | (go_at_call 29; refine (prog_Check_ok _ _ _ _ h'.out).mono ?_; rintro e w1 ⟨rfl, hb1⟩; obtain ⟨hc1, hf1⟩ := bcell hb1; have hz1 := blt hb1; have hy1 := hb1.size; simp at hy1))
  go_region_calls
  all_goals go_wp2
  all_goals first | (go_ret; exact ⟨rfl, (by repeat (first | exact Below.refl _ _ | (refine Below.drew ?_) | (refine Below_drewN ?_) | (refine Below.alloc ?_ (by first | omega | (simp; done) | (simp; omega)) _) | (refine Below.setCell ?_ (by first | omega | (simp; done) | (simp; omega)) _) | (refine Below.trans ?_ (Below.mono (by assumption) (by first | omega | (simp; done) | (simp; omega))))))⟩) | (exfalso; first | omega | (simp at *; omega) | (simp at *; done))

set_option maxHeartbeats 4000000 in
theorem prog_open_bad (a b c t : Int) (w : World) (h : ¬ BudMay a b c) : Calls Try.prog 69 #[.agg #[.int .i64 a, .int .i64 b, .int .i64 c], .agg #[.int .i64 t]] w fun e w' => e = .returned (.int .i64 2) ∧ Below w.heap.size w w' := by
  have h' := Lib.hid h
  clear h
  go_enter Try.func69, Try.ntmps69
  go_wp2_with (first | (go_at_call 29; refine (prog_Check_bad _ _ _ _ h'.out).mono ?_; rintro e w1 ⟨rfl, hb1⟩; obtain ⟨hc1, hf1⟩ := bcell hb1; have hz1 := blt hb1; have hy1 := hb1.size; simp at hy1) | go_in)
  all_goals first | (go_ret; exact ⟨rfl, (by repeat (first | exact Below.refl _ _ | (refine Below.drew ?_) | (refine Below_drewN ?_) | (refine Below.alloc ?_ (by first | omega | (simp; done) | (simp; omega)) _) | (refine Below.setCell ?_ (by first | omega | (simp; done) | (simp; omega)) _) | (refine Below.trans ?_ (Below.mono (by assumption) (by first | omega | (simp; done) | (simp; omega))))))⟩) | (exfalso; first | omega | (simp at *; omega) | (simp at *; done))

set_option maxHeartbeats 4000000 in
theorem prog_open_state (a b c t : Int) (w : World) (h : BudMay a b c) (ht : t < 0 ∨ (0 ≤ t ∧ c * b < t)) : Calls Try.prog 69 #[.agg #[.int .i64 a, .int .i64 b, .int .i64 c], .agg #[.int .i64 t]] w fun e w' => e = .returned (.int .i64 6) ∧ Below w.heap.size w w' := by
  have h' := Lib.hid h
  obtain ⟨h1, h2, h3, h4, h5, h6⟩ := h
  obtain ⟨c1, c2⟩ := mul_bd2 (a := c) (d := b) (A := 20) (D := 20) (by omega) (by omega) (by omega) (by omega)
  rcases ht with ht | ⟨ht, ht2⟩
  · go_enter Try.func69, Try.ntmps69
    go_wp2_with (first | (go_at_call 29; refine (prog_Check_ok _ _ _ _ h'.out).mono ?_; rintro e w1 ⟨rfl, hb1⟩; obtain ⟨hc1, hf1⟩ := bcell hb1; have hz1 := blt hb1; have hy1 := hb1.size; simp at hy1))
    go_quiet (fail)
    go_wp2
    all_goals first | (go_ret; exact ⟨rfl, (by repeat (first | exact Below.refl _ _ | (refine Below.drew ?_) | (refine Below_drewN ?_) | (refine Below.alloc ?_ (by first | omega | (simp; done) | (simp; omega)) _) | (refine Below.setCell ?_ (by first | omega | (simp; done) | (simp; omega)) _) | (refine Below.trans ?_ (Below.mono (by assumption) (by first | omega | (simp; done) | (simp; omega))))))⟩) | (exfalso; first | omega | (simp at *; omega) | (simp at *; done))
  · have hd : decide (t < 0) = false := by simp; omega
    go_enter Try.func69, Try.ntmps69
    go_wp2_with (first | (go_at_call 29; refine (prog_Check_ok _ _ _ _ h'.out).mono ?_; rintro e w1 ⟨rfl, hb1⟩; obtain ⟨hc1, hf1⟩ := bcell hb1; have hz1 := blt hb1; have hy1 := hb1.size; simp at hy1))
    go_region_calls
    all_goals go_wp2
    all_goals first | (go_ret; exact ⟨rfl, (by repeat (first | exact Below.refl _ _ | (refine Below.drew ?_) | (refine Below_drewN ?_) | (refine Below.alloc ?_ (by first | omega | (simp; done) | (simp; omega)) _) | (refine Below.setCell ?_ (by first | omega | (simp; done) | (simp; omega)) _) | (refine Below.trans ?_ (Below.mono (by assumption) (by first | omega | (simp; done) | (simp; omega))))))⟩) | (exfalso; first | omega | (simp at *; omega) | (simp at *; done))

set_option maxHeartbeats 4000000 in
theorem ref_bucketFault_ok (a b c t : Int) (w : World) (h : BudMay a b c) (ht : 0 ≤ t ∧ t ≤ c * b) : Calls Try.prog 70 #[.agg #[.int .i64 a, .int .i64 b, .int .i64 c], .agg #[.int .i64 t]] w fun e w' => e = .returned (.int .i64 0) ∧ Below w.heap.size w w' := by
  have h' := Lib.hid h
  obtain ⟨h1, h2, h3, h4, h5, h6⟩ := h
  obtain ⟨t1, t2⟩ := ht
  obtain ⟨c1, c2⟩ := mul_bd2 (a := c) (d := b) (A := 20) (D := 20) (by omega) (by omega) (by omega) (by omega)
  go_enter Try.func70, Try.ntmps70
  go_wp2_with (first | (go_at_call 30; refine (ref_BudgetFault_ok _ _ _ _ h'.out).mono ?_; rintro e w1 ⟨rfl, hb1⟩; obtain ⟨hc1, hf1⟩ := bcell hb1; have hz1 := blt hb1; have hy1 := hb1.size; simp at hy1) | (go_at_call 58; first | (refine (In_yes _ _ _ _ (by omega) (by omega)).mono ?_; rintro e w' ⟨rfl, rfl⟩) | (refine (In_no _ _ _ _ (by omega)).mono ?_; rintro e w' ⟨rfl, rfl⟩)))
  all_goals first | (go_ret; exact ⟨rfl, (by repeat (first | exact Below.refl _ _ | (refine Below.drew ?_) | (refine Below_drewN ?_) | (refine Below.alloc ?_ (by first | omega | (simp; done) | (simp; omega)) _) | (refine Below.setCell ?_ (by first | omega | (simp; done) | (simp; omega)) _) | (refine Below.trans ?_ (Below.mono (by assumption) (by first | omega | (simp; done) | (simp; omega))))))⟩) | (exfalso; first | omega | (simp at *; omega) | (simp at *; done))

set_option maxHeartbeats 4000000 in
theorem ref_bucketFault_bad (a b c t : Int) (w : World) (h : ¬ BudMay a b c) : Calls Try.prog 70 #[.agg #[.int .i64 a, .int .i64 b, .int .i64 c], .agg #[.int .i64 t]] w fun e w' => e = .returned (.int .i64 2) ∧ Below w.heap.size w w' := by
  have h' := Lib.hid h
  clear h
  go_enter Try.func70, Try.ntmps70
  go_wp2_with (first | (go_at_call 30; refine (ref_BudgetFault_bad _ _ _ _ h'.out).mono ?_; rintro e w1 ⟨rfl, hb1⟩; obtain ⟨hc1, hf1⟩ := bcell hb1; have hz1 := blt hb1; have hy1 := hb1.size; simp at hy1) | (go_at_call 58; first | (refine (In_yes _ _ _ _ (by omega) (by omega)).mono ?_; rintro e w' ⟨rfl, rfl⟩) | (refine (In_no _ _ _ _ (by omega)).mono ?_; rintro e w' ⟨rfl, rfl⟩)))
  all_goals first | (go_ret; exact ⟨rfl, (by repeat (first | exact Below.refl _ _ | (refine Below.drew ?_) | (refine Below_drewN ?_) | (refine Below.alloc ?_ (by first | omega | (simp; done) | (simp; omega)) _) | (refine Below.setCell ?_ (by first | omega | (simp; done) | (simp; omega)) _) | (refine Below.trans ?_ (Below.mono (by assumption) (by first | omega | (simp; done) | (simp; omega))))))⟩) | (exfalso; first | omega | (simp at *; omega) | (simp at *; done))

set_option maxHeartbeats 4000000 in
theorem ref_bucketFault_state (a b c t : Int) (w : World) (h : BudMay a b c) (ht : t < 0 ∨ (0 ≤ t ∧ c * b < t)) : Calls Try.prog 70 #[.agg #[.int .i64 a, .int .i64 b, .int .i64 c], .agg #[.int .i64 t]] w fun e w' => e = .returned (.int .i64 6) ∧ Below w.heap.size w w' := by
  have h' := Lib.hid h
  obtain ⟨h1, h2, h3, h4, h5, h6⟩ := h
  obtain ⟨c1, c2⟩ := mul_bd2 (a := c) (d := b) (A := 20) (D := 20) (by omega) (by omega) (by omega) (by omega)
  rcases ht with ht | ⟨ht, ht2⟩
  all_goals
    go_enter Try.func70, Try.ntmps70
    go_wp2_with (first | (go_at_call 30; refine (ref_BudgetFault_ok _ _ _ _ h'.out).mono ?_; rintro e w1 ⟨rfl, hb1⟩; obtain ⟨hc1, hf1⟩ := bcell hb1; have hz1 := blt hb1; have hy1 := hb1.size; simp at hy1) | (go_at_call 58; first | (refine (In_yes _ _ _ _ (by omega) (by omega)).mono ?_; rintro e w' ⟨rfl, rfl⟩) | (refine (In_no _ _ _ _ (by omega)).mono ?_; rintro e w' ⟨rfl, rfl⟩)))
    all_goals first | (go_ret; exact ⟨rfl, (by repeat (first | exact Below.refl _ _ | (refine Below.drew ?_) | (refine Below_drewN ?_) | (refine Below.alloc ?_ (by first | omega | (simp; done) | (simp; omega)) _) | (refine Below.setCell ?_ (by first | omega | (simp; done) | (simp; omega)) _) | (refine Below.trans ?_ (Below.mono (by assumption) (by first | omega | (simp; done) | (simp; omega))))))⟩) | (exfalso; first | omega | (simp at *; omega) | (simp at *; done))


set_option maxHeartbeats 8000000 in
theorem prog_Spend_bad (a b c t : Int) (w : World) (h : ¬ BudMay a b c) : Calls Try.prog 51 #[.agg #[.int .i64 a, .int .i64 b, .int .i64 c], .agg #[.int .i64 t]] w fun e w' => e = .returned (.tuple #[.agg #[.int .i64 0], .int .i64 2]) ∧ Below w.heap.size w w' := by
  have h' := Lib.hid h
  clear h
  go_enter Try.func51, Try.ntmps51
  go_wp2_with (first | (go_at_call 69; refine (prog_open_bad _ _ _ _ _ h'.out).mono ?_; rintro e w1 ⟨rfl, hb1⟩; obtain ⟨hc1, hf1⟩ := bcell hb1; have hz1 := blt hb1; have hy1 := hb1.size; simp at hy1))
  (refine bodyPost_ret (v := .tuple #[.agg #[.int .i64 0], .int .i64 2]) ?_ rfl ?_; (focus (first | (simp [results, Try.results51, go_sem]; done) | (simp [results, Try.results51, go_sem, *]; done))); exact ⟨rfl, (by repeat (first | exact Below.refl _ _ | (refine Below.drew ?_) | (refine Below_drewN ?_) | (refine Below.alloc ?_ (by first | omega | (simp; done) | (simp; omega)) _) | (refine Below.setCell ?_ (by first | omega | (simp; done) | (simp; omega)) _) | (refine Below.trans ?_ (Below.mono (by assumption) (by first | omega | (simp; done) | (simp; omega))))))⟩)

set_option maxHeartbeats 8000000 in
theorem prog_Spend_state (a b c t : Int) (w : World) (h : BudMay a b c) (ht : t < 0 ∨ (0 ≤ t ∧ c * b < t)) : Calls Try.prog 51 #[.agg #[.int .i64 a, .int .i64 b, .int .i64 c], .agg #[.int .i64 t]] w fun e w' => e = .returned (.tuple #[.agg #[.int .i64 0], .int .i64 6]) ∧ Below w.heap.size w w' := by
  have h' := Lib.hid h
  have ht' := Lib.hid ht
  clear h ht
  go_enter Try.func51, Try.ntmps51
  go_wp2_with (first | (go_at_call 69; refine (prog_open_state _ _ _ _ _ h'.out ht'.out).mono ?_; rintro e w1 ⟨rfl, hb1⟩; obtain ⟨hc1, hf1⟩ := bcell hb1; have hz1 := blt hb1; have hy1 := hb1.size; simp at hy1))
  (refine bodyPost_ret (v := .tuple #[.agg #[.int .i64 0], .int .i64 6]) ?_ rfl ?_; (focus (first | (simp [results, Try.results51, go_sem]; done) | (simp [results, Try.results51, go_sem, *]; done))); exact ⟨rfl, (by repeat (first | exact Below.refl _ _ | (refine Below.drew ?_) | (refine Below_drewN ?_) | (refine Below.alloc ?_ (by first | omega | (simp; done) | (simp; omega)) _) | (refine Below.setCell ?_ (by first | omega | (simp; done) | (simp; omega)) _) | (refine Below.trans ?_ (Below.mono (by assumption) (by first | omega | (simp; done) | (simp; omega))))))⟩)

set_option maxHeartbeats 8000000 in
theorem prog_Spend_busy (a b c t : Int) (w : World) (h : BudMay a b c) (ht : 0 ≤ t ∧ t ≤ c * b) (hl : t < b) : Calls Try.prog 51 #[.agg #[.int .i64 a, .int .i64 b, .int .i64 c], .agg #[.int .i64 t]] w fun e w' => e = .returned (.tuple #[.agg #[.int .i64 0], .int .i64 11]) ∧ Below w.heap.size w w' := by
  have h' := Lib.hid h
  have ht' := Lib.hid ht
  clear h ht
  go_enter Try.func51, Try.ntmps51
  go_wp2_with (first | (go_at_call 69; refine (prog_open_ok _ _ _ _ _ h'.out ht'.out).mono ?_; rintro e w1 ⟨rfl, hb1⟩; obtain ⟨hc1, hf1⟩ := bcell hb1; have hz1 := blt hb1; have hy1 := hb1.size; simp at hy1))
  (refine bodyPost_ret (v := .tuple #[.agg #[.int .i64 0], .int .i64 11]) ?_ rfl ?_; (focus (first | (simp [results, Try.results51, go_sem]; done) | (simp [results, Try.results51, go_sem, *]; done))); exact ⟨rfl, (by repeat (first | exact Below.refl _ _ | (refine Below.drew ?_) | (refine Below_drewN ?_) | (refine Below.alloc ?_ (by first | omega | (simp; done) | (simp; omega)) _) | (refine Below.setCell ?_ (by first | omega | (simp; done) | (simp; omega)) _) | (refine Below.trans ?_ (Below.mono (by assumption) (by first | omega | (simp; done) | (simp; omega))))))⟩)

set_option maxHeartbeats 8000000 in
theorem prog_Spend_ok (a b c t : Int) (w : World) (h : BudMay a b c) (ht : 0 ≤ t ∧ t ≤ c * b) (hl : b ≤ t) : Calls Try.prog 51 #[.agg #[.int .i64 a, .int .i64 b, .int .i64 c], .agg #[.int .i64 t]] w fun e w' => e = .returned (.tuple #[.agg #[.int .i64 (t - b)], .int .i64 0]) ∧ Below w.heap.size w w' := by
  have h' := Lib.hid h
  have ht' := Lib.hid ht
  obtain ⟨h1, h2, h3, h4, h5, h6⟩ := h
  obtain ⟨c1, c2⟩ := mul_bd2 (a := c) (d := b) (A := 20) (D := 20) (by omega) (by omega) (by omega) (by omega)
  have ht3 : t ≤ 400 := by omega
  clear ht c1 c2
  go_enter Try.func51, Try.ntmps51
  go_wp2_with (first | (go_at_call 69; refine (prog_open_ok _ _ _ _ _ h'.out ht'.out).mono ?_; rintro e w1 ⟨rfl, hb1⟩; obtain ⟨hc1, hf1⟩ := bcell hb1; have hz1 := blt hb1; have hy1 := hb1.size; simp at hy1))
  (refine bodyPost_ret (v := .tuple #[.agg #[.int .i64 (t - b)], .int .i64 0]) ?_ rfl ?_; (focus (first | (simp [results, Try.results51, go_sem]; done) | (simp [results, Try.results51, go_sem, *]; done))); exact ⟨rfl, (by repeat (first | exact Below.refl _ _ | (refine Below.drew ?_) | (refine Below_drewN ?_) | (refine Below.alloc ?_ (by first | omega | (simp; done) | (simp; omega)) _) | (refine Below.setCell ?_ (by first | omega | (simp; done) | (simp; omega)) _) | (refine Below.trans ?_ (Below.mono (by assumption) (by first | omega | (simp; done) | (simp; omega))))))⟩)

set_option maxHeartbeats 8000000 in
theorem ref_Spent_bad (a b c t : Int) (w : World) (h : ¬ BudMay a b c) : Calls Try.prog 52 #[.agg #[.int .i64 a, .int .i64 b, .int .i64 c], .agg #[.int .i64 t]] w fun e w' => e = .returned (.tuple #[.agg #[.int .i64 0], .int .i64 2]) ∧ Below w.heap.size w w' := by
  have h' := Lib.hid h
  clear h
  go_enter Try.func52, Try.ntmps52
  go_wp2_with (first | (go_at_call 70; refine (ref_bucketFault_bad _ _ _ _ _ h'.out).mono ?_; rintro e w1 ⟨rfl, hb1⟩; obtain ⟨hc1, hf1⟩ := bcell hb1; have hz1 := blt hb1; have hy1 := hb1.size; simp at hy1))
  (refine bodyPost_ret (v := .tuple #[.agg #[.int .i64 0], .int .i64 2]) ?_ rfl ?_; (focus (first | (simp [results, Try.results52, go_sem]; done) | (simp [results, Try.results52, go_sem, *]; done))); exact ⟨rfl, (by repeat (first | exact Below.refl _ _ | (refine Below.drew ?_) | (refine Below_drewN ?_) | (refine Below.alloc ?_ (by first | omega | (simp; done) | (simp; omega)) _) | (refine Below.setCell ?_ (by first | omega | (simp; done) | (simp; omega)) _) | (refine Below.trans ?_ (Below.mono (by assumption) (by first | omega | (simp; done) | (simp; omega))))))⟩)

set_option maxHeartbeats 8000000 in
theorem ref_Spent_state (a b c t : Int) (w : World) (h : BudMay a b c) (ht : t < 0 ∨ (0 ≤ t ∧ c * b < t)) : Calls Try.prog 52 #[.agg #[.int .i64 a, .int .i64 b, .int .i64 c], .agg #[.int .i64 t]] w fun e w' => e = .returned (.tuple #[.agg #[.int .i64 0], .int .i64 6]) ∧ Below w.heap.size w w' := by
  have h' := Lib.hid h
  have ht' := Lib.hid ht
  clear h ht
  go_enter Try.func52, Try.ntmps52
  go_wp2_with (first | (go_at_call 70; refine (ref_bucketFault_state _ _ _ _ _ h'.out ht'.out).mono ?_; rintro e w1 ⟨rfl, hb1⟩; obtain ⟨hc1, hf1⟩ := bcell hb1; have hz1 := blt hb1; have hy1 := hb1.size; simp at hy1))
  (refine bodyPost_ret (v := .tuple #[.agg #[.int .i64 0], .int .i64 6]) ?_ rfl ?_; (focus (first | (simp [results, Try.results52, go_sem]; done) | (simp [results, Try.results52, go_sem, *]; done))); exact ⟨rfl, (by repeat (first | exact Below.refl _ _ | (refine Below.drew ?_) | (refine Below_drewN ?_) | (refine Below.alloc ?_ (by first | omega | (simp; done) | (simp; omega)) _) | (refine Below.setCell ?_ (by first | omega | (simp; done) | (simp; omega)) _) | (refine Below.trans ?_ (Below.mono (by assumption) (by first | omega | (simp; done) | (simp; omega))))))⟩)

set_option maxHeartbeats 8000000 in
theorem ref_Spent_busy (a b c t : Int) (w : World) (h : BudMay a b c) (ht : 0 ≤ t ∧ t ≤ c * b) (hl : t < b) : Calls Try.prog 52 #[.agg #[.int .i64 a, .int .i64 b, .int .i64 c], .agg #[.int .i64 t]] w fun e w' => e = .returned (.tuple #[.agg #[.int .i64 0], .int .i64 11]) ∧ Below w.heap.size w w' := by
  have h' := Lib.hid h
  have ht' := Lib.hid ht
  obtain ⟨h1, h2, h3, h4, h5, h6⟩ := h
  obtain ⟨ht1, _⟩ := ht
  go_enter Try.func52, Try.ntmps52
  go_wp2_with (first | (go_at_call 70; refine (ref_bucketFault_ok _ _ _ _ _ h'.out ht'.out).mono ?_; rintro e w1 ⟨rfl, hb1⟩; obtain ⟨hc1, hf1⟩ := bcell hb1; have hz1 := blt hb1; have hy1 := hb1.size; simp at hy1))
  (refine bodyPost_ret (v := .tuple #[.agg #[.int .i64 0], .int .i64 11]) ?_ rfl ?_; (focus (first | (simp [results, Try.results52, go_sem]; done) | (simp [results, Try.results52, go_sem, *]; done))); exact ⟨rfl, (by repeat (first | exact Below.refl _ _ | (refine Below.drew ?_) | (refine Below_drewN ?_) | (refine Below.alloc ?_ (by first | omega | (simp; done) | (simp; omega)) _) | (refine Below.setCell ?_ (by first | omega | (simp; done) | (simp; omega)) _) | (refine Below.trans ?_ (Below.mono (by assumption) (by first | omega | (simp; done) | (simp; omega))))))⟩)

set_option maxHeartbeats 8000000 in
theorem ref_Spent_ok (a b c t : Int) (w : World) (h : BudMay a b c) (ht : 0 ≤ t ∧ t ≤ c * b) (hl : b ≤ t) : Calls Try.prog 52 #[.agg #[.int .i64 a, .int .i64 b, .int .i64 c], .agg #[.int .i64 t]] w fun e w' => e = .returned (.tuple #[.agg #[.int .i64 (t - b)], .int .i64 0]) ∧ Below w.heap.size w w' := by
  have h' := Lib.hid h
  have ht' := Lib.hid ht
  obtain ⟨h1, h2, h3, h4, h5, h6⟩ := h
  obtain ⟨c1, c2⟩ := mul_bd2 (a := c) (d := b) (A := 20) (D := 20) (by omega) (by omega) (by omega) (by omega)
  have ht3 : t ≤ 400 := by omega
  clear ht c1 c2
  go_enter Try.func52, Try.ntmps52
  go_wp2_with (first | (go_at_call 70; refine (ref_bucketFault_ok _ _ _ _ _ h'.out ht'.out).mono ?_; rintro e w1 ⟨rfl, hb1⟩; obtain ⟨hc1, hf1⟩ := bcell hb1; have hz1 := blt hb1; have hy1 := hb1.size; simp at hy1))
  (refine bodyPost_ret (v := .tuple #[.agg #[.int .i64 (t - b)], .int .i64 0]) ?_ rfl ?_; (focus (first | (simp [results, Try.results52, go_sem]; done) | (simp [results, Try.results52, go_sem, *]; done))); exact ⟨rfl, (by repeat (first | exact Below.refl _ _ | (refine Below.drew ?_) | (refine Below_drewN ?_) | (refine Below.alloc ?_ (by first | omega | (simp; done) | (simp; omega)) _) | (refine Below.setCell ?_ (by first | omega | (simp; done) | (simp; omega)) _) | (refine Below.trans ?_ (Below.mono (by assumption) (by first | omega | (simp; done) | (simp; omega))))))⟩)

set_option maxHeartbeats 8000000 in
theorem walk_BucketSpends (v0 v1 : Value) (W : World) (o0 : Is_Budget W v0) (o1 : Is_Bucket W v1) :
    Calls Try.prog 17 #[v0, v1] W fun e w' => e = .returned (.bool true) ∧ Below W.heap.size W w' := by
  obtain ⟨a, b, c, rfl, ha, hb, hc⟩ := o0
  obtain ⟨t, rfl, ht⟩ := o1
  clear ha hb hc ht
  by_cases h : BudMay a b c
  · rcases (show (t < 0 ∨ (0 ≤ t ∧ c * b < t)) ∨ ((0 ≤ t ∧ t ≤ c * b) ∧ t < b) ∨ ((0 ≤ t ∧ t ≤ c * b) ∧ b ≤ t) by omega) with h2 | ⟨h2, h3⟩ | ⟨h2, h3⟩
    · have h' := Lib.hid h
      have h2' := Lib.hid h2
      clear h h2
      go_enter Try.func17, Try.ntmps17
      go_wp2_with (first | (go_at_call 51; refine (prog_Spend_state _ _ _ _ _ h'.out h2'.out).mono ?_; rintro e w1 ⟨rfl, hb1⟩; obtain ⟨hc1, hf1⟩ := bcell hb1; have hz1 := blt hb1; have hy1 := hb1.size; simp at hy1) | (go_at_call 52; refine (ref_Spent_state _ _ _ _ _ h'.out h2'.out).mono ?_; rintro e w1 ⟨rfl, hb1⟩; obtain ⟨hc1, hf1⟩ := bcell hb1; have hz1 := blt hb1; have hy1 := hb1.size; simp at hy1))
      all_goals first | (go_ret; exact ⟨rfl, (by repeat (first | exact Below.refl _ _ | (refine Below.drew ?_) | (refine Below_drewN ?_) | (refine Below.alloc ?_ (by first | omega | (simp; done) | (simp; omega)) _) | (refine Below.setCell ?_ (by first | omega | (simp; done) | (simp; omega)) _) | (refine Below.trans ?_ (Below.mono (by assumption) (by first | omega | (simp; done) | (simp; omega))))))⟩) | (exfalso; first | omega | (simp at *; omega) | (simp at *; done))
    · have h' := Lib.hid h
      have h2' := Lib.hid h2
      have h3' := Lib.hid h3
      clear h h2 h3
      go_enter Try.func17, Try.ntmps17
      go_wp2_with (first | (go_at_call 51; refine (prog_Spend_busy _ _ _ _ _ h'.out h2'.out h3'.out).mono ?_; rintro e w1 ⟨rfl, hb1⟩; obtain ⟨hc1, hf1⟩ := bcell hb1; have hz1 := blt hb1; have hy1 := hb1.size; simp at hy1) | (go_at_call 52; refine (ref_Spent_busy _ _ _ _ _ h'.out h2'.out h3'.out).mono ?_; rintro e w1 ⟨rfl, hb1⟩; obtain ⟨hc1, hf1⟩ := bcell hb1; have hz1 := blt hb1; have hy1 := hb1.size; simp at hy1))
      all_goals first | (go_ret; exact ⟨rfl, (by repeat (first | exact Below.refl _ _ | (refine Below.drew ?_) | (refine Below_drewN ?_) | (refine Below.alloc ?_ (by first | omega | (simp; done) | (simp; omega)) _) | (refine Below.setCell ?_ (by first | omega | (simp; done) | (simp; omega)) _) | (refine Below.trans ?_ (Below.mono (by assumption) (by first | omega | (simp; done) | (simp; omega))))))⟩) | (exfalso; first | omega | (simp at *; omega) | (simp at *; done))
    · have h' := Lib.hid h
      have h2' := Lib.hid h2
      have h3' := Lib.hid h3
      clear h h2 h3
      go_enter Try.func17, Try.ntmps17
      go_wp2_with (first | (go_at_call 51; refine (prog_Spend_ok _ _ _ _ _ h'.out h2'.out h3'.out).mono ?_; rintro e w1 ⟨rfl, hb1⟩; obtain ⟨hc1, hf1⟩ := bcell hb1; have hz1 := blt hb1; have hy1 := hb1.size; simp at hy1) | (go_at_call 52; refine (ref_Spent_ok _ _ _ _ _ h'.out h2'.out h3'.out).mono ?_; rintro e w1 ⟨rfl, hb1⟩; obtain ⟨hc1, hf1⟩ := bcell hb1; have hz1 := blt hb1; have hy1 := hb1.size; simp at hy1))
      all_goals first | (go_ret; exact ⟨rfl, (by repeat (first | exact Below.refl _ _ | (refine Below.drew ?_) | (refine Below_drewN ?_) | (refine Below.alloc ?_ (by first | omega | (simp; done) | (simp; omega)) _) | (refine Below.setCell ?_ (by first | omega | (simp; done) | (simp; omega)) _) | (refine Below.trans ?_ (Below.mono (by assumption) (by first | omega | (simp; done) | (simp; omega))))))⟩) | (exfalso; first | omega | (simp at *; omega) | (simp at *; done))
  · have h' := Lib.hid h
    clear h
    go_enter Try.func17, Try.ntmps17
    go_wp2_with (first | (go_at_call 51; refine (prog_Spend_bad _ _ _ _ _ h'.out).mono ?_; rintro e w1 ⟨rfl, hb1⟩; obtain ⟨hc1, hf1⟩ := bcell hb1; have hz1 := blt hb1; have hy1 := hb1.size; simp at hy1) | (go_at_call 52; refine (ref_Spent_bad _ _ _ _ _ h'.out).mono ?_; rintro e w1 ⟨rfl, hb1⟩; obtain ⟨hc1, hf1⟩ := bcell hb1; have hz1 := blt hb1; have hy1 := hb1.size; simp at hy1))
    all_goals first | (go_ret; exact ⟨rfl, (by repeat (first | exact Below.refl _ _ | (refine Below.drew ?_) | (refine Below_drewN ?_) | (refine Below.alloc ?_ (by first | omega | (simp; done) | (simp; omega)) _) | (refine Below.setCell ?_ (by first | omega | (simp; done) | (simp; omega)) _) | (refine Below.trans ?_ (Below.mono (by assumption) (by first | omega | (simp; done) | (simp; omega))))))⟩) | (exfalso; first | omega | (simp at *; omega) | (simp at *; done))
end Go.Proofs.Ytehodcjnbkkkeaa
