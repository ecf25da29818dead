/- usherref.SameWheel on empty wheels; the walk of WheelNews. -/
import Derived.Test.YtehodcjnbkkkeaaWheelNew
import Derived.Deep.RegionWith
namespace Go.Proofs.Ytehodcjnbkkkeaa
open Go.RowKit

set_option maxHeartbeats 1000000 in
theorem SameTimers_nil (a1 a2 : Option Addr) (c1 c2 : Nat) (w : World) :
    Calls Try.prog 60 #[.slice a1 0 c1, .slice a2 0 c2] w fun e w' => e = .returned (.bool true) ∧ w = w' := by
  go_enter Try.func60, Try.ntmps60
  go_wp2
  refine wp_loop_rounds 1 ?_
  rw [rounds_succ]
  go_wp2
  all_goals first | (go_ret; exact ⟨rfl, rfl⟩) | (exfalso; first | omega | (simp at *; omega) | (simp at *; done))

set_option maxHeartbeats 2000000 in
set_option maxRecDepth 100000 in
theorem SameWheel_nils (b1 o1 c1 b2 o2 c2 : Nat) (now : Int) (w : World) (h1 : ∀ i, i < 25 → w.cell? ⟨b1, o1 + i, none⟩ = some (.slice none 0 0)) (h2 : ∀ i, i < 25 → w.cell? ⟨b2, o2 + i, none⟩ = some (.slice none 0 0)) :
    Calls Try.prog 23 #[.agg #[.int .i64 now, .slice (some ⟨b1, o1, none⟩) 25 c1], .agg #[.int .i64 now, .slice (some ⟨b2, o2, none⟩) 25 c2]] w fun e w' => e = .returned (.bool true) ∧ Below w.heap.size w w' := by
  have H1 := Lib.hid h1
  have H2 := Lib.hid h2
  clear h1 h2
  go_enter Try.func23, Try.ntmps23
  go_wp2
  go_loopw [5] (fun i wr => ∃ k : Nat, k ≤ 25 ∧ i = .int .i64 k ∧ Below w.heap.size w wr ∧ wr.cell? ⟨w.heap.size, 1, none⟩ = some (.slice (some ⟨b1, o1, none⟩) 25 c1) ∧ wr.cell? ⟨w.heap.size + 1, 1, none⟩ = some (.slice (some ⟨b2, o2, none⟩) 25 c2) ∧ (∀ b o v, w.cell? ⟨b, o, none⟩ = some v → wr.cell? ⟨b, o, none⟩ = some v)) (fun i _ => 25 - (intOf i).toNat)
  case atStart => exact ⟨0, Nat.zero_le _, rfl, ((Below.refl _ _).alloc (Nat.le_refl _) _).alloc (by simp) _, by go_simp, by go_simp, fun _ _ _ h => cell_alloc _ (cell_alloc _ h)⟩
  case round =>
    obtain ⟨k, hk, rfl, hbel, s1, s2, hold⟩ := hrel
    rcases (show k < 25 ∨ k = 25 by omega) with hlt | rfl
    · have hlt' : (k : Int) < 25 := by omega
      have a0 := hold _ _ _ (H1.out k hlt)
      have d0 := hold _ _ _ (H2.out k hlt)
      have HO := Lib.hid hold
      clear hold
      go_wp2_with fail
      go_quiet ((go_at_call 60; exact Calls.quiet_of_same ((SameTimers_nil _ _ _ _ _).mono (fun _ _ h => ⟨h.1, h.2.symm⟩))))
      go_wp2
      go_roundw
      case rel => exact ⟨k + 1, by omega, by go_num, Below_drewN hbel, s1, s2, fun b o v h => HO.out b o v h⟩
      case measure => simp [intOf]; omega
    · go_wp2
      all_goals first | (go_ret; exact ⟨rfl, hbel⟩) | (exfalso; first | omega | (simp at *; omega) | (simp at *; done))

theorem SameWheel_news (v1 v2 : Value) (now : Int) (w : World) (r1 : RowAt w 1 v1 (nils 25)) (r2 : RowAt w 1 v2 (nils 25)) :
    Calls Try.prog 23 #[.agg #[.int .i64 now, v1], .agg #[.int .i64 now, v2]] w fun e w' => e = .returned (.bool true) ∧ Below w.heap.size w w' := by
  obtain ⟨a1, c1, rfl, _, _, _, p1⟩ := r1
  obtain ⟨a2, c2, rfl, _, _, _, p2⟩ := r2
  have hl : (nils 25).length = 25 := by simp [nils]
  have hne : nils 25 ≠ [] := by intro h; rw [h] at hl; cases hl
  obtain ⟨b1, o1, rfl, _, q1⟩ := p1 hne
  obtain ⟨b2, o2, rfl, _, q2⟩ := p2 hne
  rw [hl] at q1 q2 ⊢
  have g : ∀ i, i < 25 → ((nils 25).getD i [])[0]? = some (.slice none 0 0) := fun i hi => nils_get 25 i hi
  exact SameWheel_nils b1 o1 c1 b2 o2 c2 now w (fun i hi => by have := q1 i 0 hi (by omega); rw [g i hi] at this; simpa using this) (fun i hi => by have := q2 i 0 hi (by omega); rw [g i hi] at this; simpa using this)

set_option maxHeartbeats 1000000 in
set_option maxRecDepth 100000 in
theorem SameWheel_zero (w : World) : Calls Try.prog 23 #[.agg #[.int .i64 0, .slice none 0 0], .agg #[.int .i64 0, .slice none 0 0]] w fun e w' => e = .returned (.bool true) ∧ Below w.heap.size w w' := by
  go_enter Try.func23, Try.ntmps23
  go_wp2
  refine wp_loop_rounds 1 ?_
  rw [rounds_succ]
  go_wp2
  all_goals first | (go_ret; exact ⟨rfl, (by repeat (first | exact Below.refl _ _ | (refine Below.drew ?_) | (refine Below_drewN ?_) | (refine Below.alloc ?_ (by first | omega | (simp; done) | (simp; omega)) _) | (refine Below.setCell ?_ (by first | omega | (simp; done) | (simp; omega)) _) | (refine Below.trans ?_ (Below.mono (by assumption) (by first | omega | (simp; done) | (simp; omega))))))⟩) | (exfalso; first | omega | (simp at *; omega) | (simp at *; done))

set_option maxHeartbeats 1000000 in
set_option maxRecDepth 100000 in
theorem ref_WheelNew_bad (n : Int) (w : World) (h : n < 0 ∨ (0 ≤ n ∧ 1099511627776 < n)) : Calls Try.prog 22 #[.int .i64 n] w fun e w' => e = .returned (.tuple #[.agg #[.int .i64 0, .slice none 0 0], .int .i64 2]) ∧ Below w.heap.size w w' := by
  rcases h with h | ⟨h, h2⟩
  all_goals
    go_enter Try.func22, Try.ntmps22
    go_wp2_with (go_at_call 58; first | (refine (In_yes _ _ _ _ (by omega) (by omega)).mono ?_; rintro e w' ⟨rfl, rfl⟩) | (refine (In_no _ _ _ _ (by omega)).mono ?_; rintro e w' ⟨rfl, rfl⟩))
    (refine bodyPost_ret (v := .tuple #[.agg #[.int .i64 0, .slice none 0 0], .int .i64 2]) ?_ rfl ?_; (focus (first | (simp [results, Try.results22, go_sem]; done) | (simp [results, Try.results22, go_sem, *]; done))); exact ⟨rfl, (by repeat (first | exact Below.refl _ _ | (refine Below.drew ?_) | (refine Below_drewN ?_) | (refine Below.alloc ?_ (by first | omega | (simp; done) | (simp; omega)) _) | (refine Below.setCell ?_ (by first | omega | (simp; done) | (simp; omega)) _) | (refine Below.trans ?_ (Below.mono (by assumption) (by first | omega | (simp; done) | (simp; omega))))))⟩)

set_option maxHeartbeats 1000000 in
set_option maxRecDepth 100000 in
theorem ref_WheelNew_ok (n : Int) (w : World) (h1 : 0 ≤ n) (h2 : n ≤ 1099511627776) : Calls Try.prog 22 #[.int .i64 n] w (WhePost w n) := by
  go_enter Try.func22, Try.ntmps22
  go_wp2_with (go_at_call 58; first | (refine (In_yes _ _ _ _ (by omega) (by omega)).mono ?_; rintro e w' ⟨rfl, rfl⟩) | (refine (In_no _ _ _ _ (by omega)).mono ?_; rintro e w' ⟨rfl, rfl⟩))
  go_wp2_with fail
  refine (ref_WheelOf_nil n _).mono ?_
  rintro e w1 ⟨v1, rfl, R1, hb1⟩
  obtain ⟨a1, k1, hv, _⟩ := RowAt_cells R1.1
  have hl : (nils 25).length = 25 := by simp [nils]
  rw [hl] at hv
  subst hv
  obtain ⟨hc1, hf1⟩ := bcell hb1
  have hz1 := blt hb1
  have R1' := Lib.hid R1
  clear R1 hl
  go_wp2
  refine bodyPost_ret (v := .tuple #[.agg #[.int .i64 n, .slice a1 25 k1], .int .i64 0]) ?_ rfl ?_
  · simp [results, Try.results22, go_sem, *]
  · refine ⟨_, rfl, (RowNew_setCell (RowNew_setCell R1'.out (by simp) _) (by simp) _).1, ?_⟩
    exact ((((Below.refl _ _).alloc (Nat.le_refl _) _).trans (hb1.mono (by simp))).setCell (by simp) _).setCell (by simp) _

set_option maxHeartbeats 4000000 in
set_option maxRecDepth 100000 in
theorem walk_WheelNews (v0 : Value) (W : World) (o0 : Is_int W v0) :
    Calls Try.prog 4 #[v0] W fun e w' => e = .returned (.bool true) ∧ Below W.heap.size W w' := by
  obtain ⟨n, rfl, ha⟩ := o0
  clear ha
  rcases (show (n < 0 ∨ (0 ≤ n ∧ 1099511627776 < n)) ∨ (0 ≤ n ∧ n ≤ 1099511627776) by omega) with h | ⟨h1, h2⟩
  · have h' := Lib.hid h
    clear h
    go_enter Try.func4, Try.ntmps4
    go_wp2_with (first | (go_at_call 21; refine (prog_New_bad _ _ h'.out).mono ?_; rintro e w1 ⟨rfl, hb1⟩; obtain ⟨hc1, hf1⟩ := bcell hb1; have hz1 := blt hb1; have hy1 := hb1.size; (try simp at hy1)) | (go_at_call 22; refine (ref_WheelNew_bad _ _ h'.out).mono ?_; rintro e w1 ⟨rfl, hb1⟩; obtain ⟨hc1, hf1⟩ := bcell hb1; have hz1 := blt hb1; have hy1 := hb1.size; (try simp at hy1)) | (go_at_call 23; refine (SameWheel_zero _).mono ?_; rintro e w1 ⟨rfl, hb1⟩; obtain ⟨hc1, hf1⟩ := bcell hb1; have hz1 := blt hb1; have hy1 := hb1.size; (try simp at hy1)))
    all_goals first | (go_ret; exact ⟨rfl, (by repeat (first | exact Below.refl _ _ | (refine Below.drew ?_) | (refine Below_drewN ?_) | (refine Below.alloc ?_ (by first | omega | (simp; done) | (simp; omega)) _) | (refine Below.setCell ?_ (by first | omega | (simp; done) | (simp; omega)) _) | (refine Below.trans ?_ (Below.mono (by assumption) (by first | omega | (simp; done) | (simp; omega))))))⟩) | (exfalso; first | omega | (simp at *; omega) | (simp at *; done))
  · have H1 := Lib.hid h1
    have H2 := Lib.hid h2
    clear h1 h2
    have hl : (nils 25).length = 25 := by simp [nils]
    have HL := Lib.hid hl
    clear hl
    go_enter Try.func4, Try.ntmps4
    go_wp2_with fail
    refine (prog_New_ok _ _ H1.out H2.out).mono ?_
    rintro e w1 ⟨v1, rfl, R1, hb1⟩
    obtain ⟨a1, k1, hv, _⟩ := RowAt_cells R1
    rw [HL.out] at hv
    subst hv
    obtain ⟨hc1, hf1⟩ := bcell hb1
    have hz1 := blt hb1
    have hy1 := hb1.size
    have R1' := Lib.hid R1
    clear R1
    go_wp2_with fail
    refine (ref_WheelNew_ok _ _ H1.out H2.out).mono ?_
    rintro e w2 ⟨v2, rfl, R2, hb2⟩
    obtain ⟨a2, k2, hv, _⟩ := RowAt_cells R2
    rw [HL.out] at hv
    subst hv
    obtain ⟨hc2, hf2⟩ := bcell hb2
    have hz2 := blt hb2
    have hy2 := hb2.size
    simp at hy2
    have R2' := Lib.hid R2
    clear R2
    go_wp2_with fail
    have R1 := R1'.out
    have R2 := R2'.out
    refine (SameWheel_news _ _ n _ (by repeat (first | assumption | (refine RowAt_alloc ?_ _) | (refine RowAt_drewN ?_ _) | (refine RowAt_below ?_ (Below.mono (by assumption) (by first | omega | (simp; done) | (simp; omega)))))) (by repeat (first | assumption | (refine RowAt_alloc ?_ _) | (refine RowAt_drewN ?_ _) | (refine RowAt_below ?_ (Below.mono (by assumption) (by first | omega | (simp; done) | (simp; omega))))))).mono ?_
    rintro e w3 ⟨rfl, hb3⟩
    have hy3 := hb3.size
    simp at hy3
    clear R1 R2 R1' R2'
    go_wp2
    all_goals first | (go_ret; exact ⟨rfl, (by repeat (first | exact Below.refl _ _ | (refine Below.drew ?_) | (refine Below_drewN ?_) | (refine Below.alloc ?_ (by first | omega | (simp; done) | (simp; omega)) _) | (refine Below.setCell ?_ (by first | omega | (simp; done) | (simp; omega)) _) | (refine Below.trans ?_ (Below.mono (by assumption) (by first | omega | (simp; done) | (simp; omega))))))⟩) | (exfalso; first | omega | (simp at *; omega) | (simp at *; done))
end Go.Proofs.Ytehodcjnbkkkeaa
