/- Walk of BucketEarns. -/
import Derived.Test.YtehodcjnbkkkeaaEarn
namespace Go.Proofs.Ytehodcjnbkkkeaa
open Go.RowKit

set_option maxHeartbeats 8000000 in
theorem ref_Earned_bad (a b c t : Int) (w : World) (h : ¬ BudMay a b c) : Calls Try.prog 50 #[.agg #[.int .i64 a, .int .i64 b, .int .i64 c], .agg #[.int .i64 t]] w fun e w' => e = .returned (.tuple #[.agg #[.int .i64 0], .int .i64 2]) ∧ Below w.heap.size w w' := by
  have h' := Lib.hid h
  clear h
  go_enter Try.func50, Try.ntmps50
  go_wp2_with (first | (go_at_call 70; refine (ref_bucketFault_bad _ _ _ _ _ h'.out).mono ?_; rintro e w1 ⟨rfl, hb1⟩; obtain ⟨hc1, hf1⟩ := bcell hb1; have hz1 := blt hb1; have hy1 := hb1.size; simp at hy1))
  (refine bodyPost_ret (v := .tuple #[.agg #[.int .i64 0], .int .i64 2]) ?_ rfl ?_; (focus (first | (simp [results, Try.results50, go_sem]; done) | (simp [results, Try.results50, go_sem, *]; done))); exact ⟨rfl, (by repeat (first | exact Below.refl _ _ | (refine Below.drew ?_) | (refine Below_drewN ?_) | (refine Below.alloc ?_ (by first | omega | (simp; done) | (simp; omega)) _) | (refine Below.setCell ?_ (by first | omega | (simp; done) | (simp; omega)) _) | (refine Below.trans ?_ (Below.mono (by assumption) (by first | omega | (simp; done) | (simp; omega))))))⟩)

set_option maxHeartbeats 8000000 in
theorem ref_Earned_state (a b c t : Int) (w : World) (h : BudMay a b c) (ht : t < 0 ∨ (0 ≤ t ∧ c * b < t)) : Calls Try.prog 50 #[.agg #[.int .i64 a, .int .i64 b, .int .i64 c], .agg #[.int .i64 t]] w fun e w' => e = .returned (.tuple #[.agg #[.int .i64 0], .int .i64 6]) ∧ Below w.heap.size w w' := by
  have h' := Lib.hid h
  have ht' := Lib.hid ht
  clear h ht
  go_enter Try.func50, Try.ntmps50
  go_wp2_with (first | (go_at_call 70; refine (ref_bucketFault_state _ _ _ _ _ h'.out ht'.out).mono ?_; rintro e w1 ⟨rfl, hb1⟩; obtain ⟨hc1, hf1⟩ := bcell hb1; have hz1 := blt hb1; have hy1 := hb1.size; simp at hy1))
  (refine bodyPost_ret (v := .tuple #[.agg #[.int .i64 0], .int .i64 6]) ?_ rfl ?_; (focus (first | (simp [results, Try.results50, go_sem]; done) | (simp [results, Try.results50, go_sem, *]; done))); exact ⟨rfl, (by repeat (first | exact Below.refl _ _ | (refine Below.drew ?_) | (refine Below_drewN ?_) | (refine Below.alloc ?_ (by first | omega | (simp; done) | (simp; omega)) _) | (refine Below.setCell ?_ (by first | omega | (simp; done) | (simp; omega)) _) | (refine Below.trans ?_ (Below.mono (by assumption) (by first | omega | (simp; done) | (simp; omega))))))⟩)

set_option maxHeartbeats 8000000 in
theorem ref_Earned_ok (a b c t : Int) (w : World) (h : BudMay a b c) (ht : 0 ≤ t ∧ t ≤ c * b) : Calls Try.prog 50 #[.agg #[.int .i64 a, .int .i64 b, .int .i64 c], .agg #[.int .i64 t]] w fun e w' => e = .returned (.tuple #[.agg #[.int .i64 (min (t + a) (c * b))], .int .i64 0]) ∧ Below w.heap.size w w' := by
  have h' := Lib.hid h
  have ht' := Lib.hid ht
  obtain ⟨h1, h2, h3, h4, h5, h6⟩ := h
  obtain ⟨c1, c2⟩ := mul_bd2 (a := c) (d := b) (A := 20) (D := 20) (by omega) (by omega) (by omega) (by omega)
  have ht3 : 0 ≤ t := by omega
  have ht4 : t ≤ c * b := by omega
  clear ht
  go_enter Try.func50, Try.ntmps50
  go_wp2_with (first | (go_at_call 70; refine (ref_bucketFault_ok _ _ _ _ _ h'.out ht'.out).mono ?_; rintro e w1 ⟨rfl, hb1⟩; obtain ⟨hc1, hf1⟩ := bcell hb1; have hz1 := blt hb1; have hy1 := hb1.size; simp at hy1))
  have q0 : w1.cell? ⟨w.heap.size, 0, none⟩ = some (.int .i64 a) := by go_simp
  have q1 : w1.cell? ⟨w.heap.size, 1, none⟩ = some (.int .i64 b) := by go_simp
  have q2 : w1.cell? ⟨w.heap.size, 2, none⟩ = some (.int .i64 c) := by go_simp
  have q3 : w1.cell? ⟨w.heap.size + 1, 0, none⟩ = some (.int .i64 t) := by go_simp
  have q4 : w1.frozen? ⟨w.heap.size + 1, 0, none⟩ = false := by go_simp
  have q5 : ∃ v, w1.cell? ⟨w.heap.size + 1 + 1, 0, none⟩ = some (.int .i64 v) := ⟨0, by go_simp⟩
  have q6 : w1.frozen? ⟨w.heap.size + 1 + 1, 0, none⟩ = false := by go_simp
  have q7 : Below w.heap.size w w1 := (by repeat (first | exact Below.refl _ _ | (refine Below.drew ?_) | (refine Below_drewN ?_) | (refine Below.alloc ?_ (by first | omega | (simp; done) | (simp; omega)) _) | (refine Below.setCell ?_ (by first | omega | (simp; done) | (simp; omega)) _) | (refine Below.trans ?_ (Below.mono (by assumption) (by first | omega | (simp; done) | (simp; omega))))))
  have q8 : w.heap.size + 1 + 1 < w1.heap.size := by omega
  clear hb1 hc1 hf1 hz1 hy1
  go_loopw [7] (fun k wr => ∃ n m : Int, 0 ≤ n ∧ n ≤ a ∧ k = .int .i64 n ∧ wr.cell? ⟨w.heap.size + 1, 0, none⟩ = some (.int .i64 m) ∧ m = min (t + n) (c * b) ∧ wr.frozen? ⟨w.heap.size + 1, 0, none⟩ = false ∧
      wr.cell? ⟨w.heap.size, 0, none⟩ = some (.int .i64 a) ∧ wr.cell? ⟨w.heap.size, 1, none⟩ = some (.int .i64 b) ∧ wr.cell? ⟨w.heap.size, 2, none⟩ = some (.int .i64 c) ∧
      (∃ v, wr.cell? ⟨w.heap.size + 1 + 1, 0, none⟩ = some (.int .i64 v)) ∧ wr.frozen? ⟨w.heap.size + 1 + 1, 0, none⟩ = false ∧ Below w.heap.size w wr ∧ w.heap.size + 1 + 1 < wr.heap.size) (fun k _ => (a - intOf k).toNat)
  case atStart => exact ⟨0, t, by omega, by omega, rfl, q3, by omega, q4, q0, q1, q2, q5, q6, q7, q8⟩
  case round =>
    obtain ⟨n, m, hn1, hn2, rfl, r3, hm, r4, r0, r1, r2, ⟨v, r5⟩, r6, r7, r8⟩ := hrel
    have HM := Lib.hid hm
    have hm1 : 0 ≤ m := by omega
    have hm2 : m ≤ 400 := by omega
    clear hm q0 q1 q2 q3 q4 q5 q6 q7 q8
    rcases (show n < a ∨ a ≤ n by omega) with hlt | hge
    · rcases (show m < c * b ∨ c * b ≤ m by omega) with hlm | hlm
      · go_wp2
        go_roundw
        case rel =>
          have hm := HM.out
          exact ⟨n + 1, m + 1, by omega, by omega, rfl, by go_simp, by omega, by go_simp, by go_simp, by go_simp, by go_simp, ⟨v, by go_simp⟩, by go_simp, r7.setCell (by simp) _, by go_simp⟩
        case measure => simp [intOf]; omega
      · go_wp2
        go_roundw
        case rel =>
          have hm := HM.out
          exact ⟨n + 1, m, by omega, by omega, rfl, r3, by omega, r4, r0, r1, r2, ⟨v, r5⟩, r6, r7, r8⟩
        case measure => simp [intOf]; omega
    · go_wp2
      have hm := HM.out
      refine bodyPost_ret (v := .tuple #[.agg #[.int .i64 m], .int .i64 0]) ?_ rfl ?_
      · simp [results, Try.results50, go_sem, *]
      · exact ⟨by rw [show m = min (t + a) (c * b) by omega], r7.setCell (by show _ ≤ w.heap.size + 1 + 1; omega) _⟩

set_option maxHeartbeats 8000000 in
theorem walk_BucketEarns (v0 v1 : Value) (W : World) (o0 : Is_Budget W v0) (o1 : Is_Bucket W v1) :
    Calls Try.prog 16 #[v0, v1] W fun e w' => e = .returned (.bool true) ∧ Below W.heap.size W w' := by
  obtain ⟨a, b, c, rfl, ha, hb, hc⟩ := o0
  obtain ⟨t, rfl, ht⟩ := o1
  clear ha hb hc ht
  by_cases h : BudMay a b c
  · rcases (show (t < 0 ∨ (0 ≤ t ∧ c * b < t)) ∨ (0 ≤ t ∧ t ≤ c * b) by omega) with h2 | h2
    · have h' := Lib.hid h
      have h2' := Lib.hid h2
      clear h h2
      go_enter Try.func16, Try.ntmps16
      go_wp2_with (first | (go_at_call 49; refine (prog_Earn_state _ _ _ _ _ h'.out h2'.out).mono ?_; rintro e w1 ⟨rfl, hb1⟩; obtain ⟨hc1, hf1⟩ := bcell hb1; have hz1 := blt hb1; have hy1 := hb1.size; simp at hy1) | (go_at_call 50; refine (ref_Earned_state _ _ _ _ _ h'.out h2'.out).mono ?_; rintro e w1 ⟨rfl, hb1⟩; obtain ⟨hc1, hf1⟩ := bcell hb1; have hz1 := blt hb1; have hy1 := hb1.size; simp at hy1))
      all_goals first | (go_ret; exact ⟨rfl, (by repeat (first | exact Below.refl _ _ | (refine Below.drew ?_) | (refine Below_drewN ?_) | (refine Below.alloc ?_ (by first | omega | (simp; done) | (simp; omega)) _) | (refine Below.setCell ?_ (by first | omega | (simp; done) | (simp; omega)) _) | (refine Below.trans ?_ (Below.mono (by assumption) (by first | omega | (simp; done) | (simp; omega))))))⟩) | (exfalso; first | omega | (simp at *; omega) | (simp at *; done))
    · have h' := Lib.hid h
      have h2' := Lib.hid h2
      clear h h2
      go_enter Try.func16, Try.ntmps16
      go_wp2_with (first | (go_at_call 49; refine (prog_Earn_ok _ _ _ _ _ h'.out h2'.out).mono ?_; rintro e w1 ⟨rfl, hb1⟩; obtain ⟨hc1, hf1⟩ := bcell hb1; have hz1 := blt hb1; have hy1 := hb1.size; simp at hy1) | (go_at_call 50; refine (ref_Earned_ok _ _ _ _ _ h'.out h2'.out).mono ?_; rintro e w1 ⟨rfl, hb1⟩; obtain ⟨hc1, hf1⟩ := bcell hb1; have hz1 := blt hb1; have hy1 := hb1.size; simp at hy1))
      all_goals first | (go_ret; exact ⟨rfl, (by repeat (first | exact Below.refl _ _ | (refine Below.drew ?_) | (refine Below_drewN ?_) | (refine Below.alloc ?_ (by first | omega | (simp; done) | (simp; omega)) _) | (refine Below.setCell ?_ (by first | omega | (simp; done) | (simp; omega)) _) | (refine Below.trans ?_ (Below.mono (by assumption) (by first | omega | (simp; done) | (simp; omega))))))⟩) | (exfalso; first | omega | (simp at *; omega) | (simp at *; done))
  · have h' := Lib.hid h
    clear h
    go_enter Try.func16, Try.ntmps16
    go_wp2_with (first | (go_at_call 49; refine (prog_Earn_bad _ _ _ _ _ h'.out).mono ?_; rintro e w1 ⟨rfl, hb1⟩; obtain ⟨hc1, hf1⟩ := bcell hb1; have hz1 := blt hb1; have hy1 := hb1.size; simp at hy1) | (go_at_call 50; refine (ref_Earned_bad _ _ _ _ _ h'.out).mono ?_; rintro e w1 ⟨rfl, hb1⟩; obtain ⟨hc1, hf1⟩ := bcell hb1; have hz1 := blt hb1; have hy1 := hb1.size; simp at hy1))
    all_goals first | (go_ret; exact ⟨rfl, (by repeat (first | exact Below.refl _ _ | (refine Below.drew ?_) | (refine Below_drewN ?_) | (refine Below.alloc ?_ (by first | omega | (simp; done) | (simp; omega)) _) | (refine Below.setCell ?_ (by first | omega | (simp; done) | (simp; omega)) _) | (refine Below.trans ?_ (Below.mono (by assumption) (by first | omega | (simp; done) | (simp; omega))))))⟩) | (exfalso; first | omega | (simp at *; omega) | (simp at *; done))
end Go.Proofs.Ytehodcjnbkkkeaa
