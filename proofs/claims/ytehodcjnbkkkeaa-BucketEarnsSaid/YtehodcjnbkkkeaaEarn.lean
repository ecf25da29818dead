/- Walk of BucketEarns. -/
import Derived.Test.YtehodcjnbkkkeaaSpend
import Derived.BigRegion
namespace Go.Proofs.Ytehodcjnbkkkeaa
open Go.RowKit

set_option maxHeartbeats 8000000 in
theorem prog_Earn_bad (a b c t : Int) (w : World) (h : ¬ BudMay a b c) : Calls Try.prog 49 #[.agg #[.int .i64 a, .int .i64 b, .int .i64 c], .agg #[.int .i64 t]] w fun e w' => e = .returned (.tuple #[.agg #[.int .i64 0], .int .i64 2]) ∧ Below w.heap.size w w' := by
  have h' := Lib.hid h
  clear h
  go_enter Try.func49, Try.ntmps49
  go_wp2_with (first | (go_at_call 69; refine (prog_open_bad _ _ _ _ _ h'.out).mono ?_; rintro e w1 ⟨rfl, hb1⟩; obtain ⟨hc1, hf1⟩ := bcell hb1; have hz1 := blt hb1; have hy1 := hb1.size; simp at hy1))
  (refine bodyPost_ret (v := .tuple #[.agg #[.int .i64 0], .int .i64 2]) ?_ rfl ?_; (focus (first | (simp [results, Try.results49, go_sem]; done) | (simp [results, Try.results49, go_sem, *]; done))); exact ⟨rfl, (by repeat (first | exact Below.refl _ _ | (refine Below.drew ?_) | (refine Below_drewN ?_) | (refine Below.alloc ?_ (by first | omega | (simp; done) | (simp; omega)) _) | (refine Below.setCell ?_ (by first | omega | (simp; done) | (simp; omega)) _) | (refine Below.trans ?_ (Below.mono (by assumption) (by first | omega | (simp; done) | (simp; omega))))))⟩)

set_option maxHeartbeats 8000000 in
theorem prog_Earn_state (a b c t : Int) (w : World) (h : BudMay a b c) (ht : t < 0 ∨ (0 ≤ t ∧ c * b < t)) : Calls Try.prog 49 #[.agg #[.int .i64 a, .int .i64 b, .int .i64 c], .agg #[.int .i64 t]] w fun e w' => e = .returned (.tuple #[.agg #[.int .i64 0], .int .i64 6]) ∧ Below w.heap.size w w' := by
  have h' := Lib.hid h
  have ht' := Lib.hid ht
  clear h ht
  go_enter Try.func49, Try.ntmps49
  go_wp2_with (first | (go_at_call 69; refine (prog_open_state _ _ _ _ _ h'.out ht'.out).mono ?_; rintro e w1 ⟨rfl, hb1⟩; obtain ⟨hc1, hf1⟩ := bcell hb1; have hz1 := blt hb1; have hy1 := hb1.size; simp at hy1))
  (refine bodyPost_ret (v := .tuple #[.agg #[.int .i64 0], .int .i64 6]) ?_ rfl ?_; (focus (first | (simp [results, Try.results49, go_sem]; done) | (simp [results, Try.results49, go_sem, *]; done))); exact ⟨rfl, (by repeat (first | exact Below.refl _ _ | (refine Below.drew ?_) | (refine Below_drewN ?_) | (refine Below.alloc ?_ (by first | omega | (simp; done) | (simp; omega)) _) | (refine Below.setCell ?_ (by first | omega | (simp; done) | (simp; omega)) _) | (refine Below.trans ?_ (Below.mono (by assumption) (by first | omega | (simp; done) | (simp; omega))))))⟩)

set_option maxHeartbeats 8000000 in
theorem prog_Earn_ok (a b c t : Int) (w : World) (h : BudMay a b c) (ht : 0 ≤ t ∧ t ≤ c * b) : Calls Try.prog 49 #[.agg #[.int .i64 a, .int .i64 b, .int .i64 c], .agg #[.int .i64 t]] w fun e w' => e = .returned (.tuple #[.agg #[.int .i64 (min (t + a) (c * b))], .int .i64 0]) ∧ Below w.heap.size w w' := by
  have h' := Lib.hid h
  have ht' := Lib.hid ht
  obtain ⟨h1, h2, h3, h4, h5, h6⟩ := h
  obtain ⟨c1, c2⟩ := mul_bd2 (a := c) (d := b) (A := 20) (D := 20) (by omega) (by omega) (by omega) (by omega)
  have ht3 : 0 ≤ t := by omega
  have ht4 : t ≤ 400 := by omega
  have hwr : IntKind.i64.wrap (t + a) = t + a := IntWalk.i64_in _ (by omega)
  clear ht
  go_enter Try.func49, Try.ntmps49
  go_wp2_with (first | (go_at_call 69; refine (prog_open_ok _ _ _ _ _ h'.out ht'.out).mono ?_; rintro e w1 ⟨rfl, hb1⟩; obtain ⟨hc1, hf1⟩ := bcell hb1; have hz1 := blt hb1; have hy1 := hb1.size; simp at hy1))
  go_region_calls
  all_goals go_wp2
  all_goals
    refine bodyPost_ret (v := .tuple #[.agg #[.int .i64 (min (t + a) (c * b))], .int .i64 0]) ?_ rfl ?_
    · (simp [results, Try.results49, go_sem, *]; try omega)
    · exact ⟨rfl, (by repeat (first | exact Below.refl _ _ | (refine Below.drew ?_) | (refine Below_drewN ?_) | (refine Below.alloc ?_ (by first | omega | (simp; done) | (simp; omega)) _) | (refine Below.setCell ?_ (by first | omega | (simp; done) | (simp; omega)) _) | (refine Below.trans ?_ (Below.mono (by assumption) (by first | omega | (simp; done) | (simp; omega))))))⟩

end Go.Proofs.Ytehodcjnbkkkeaa
