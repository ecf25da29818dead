/- tally.Live, usherref.LiveFlows; the walk of TallyLives. -/
import Derived.Test.YtehodcjnbkkkeaaTallied
import Derived.Test.YtehodcjnbkkkeaaCopyoutputs
namespace Go.Proofs.Ytehodcjnbkkkeaa
open Go.RowKit

theorem talV_get (X : List Out) (j : Nat) (hj : j < 17) : (talV X)[j]? = some (.int .i64 (cnt X j)) := by
  simp [talV, hj]

set_option maxHeartbeats 4000000 in
set_option maxRecDepth 100000 in
theorem prog_Live_ok (v : Value) (X : List Out) (w : World) (r : RowAt w 7 v (X.map Out.cells)) (hn : X.length * 56 ≤ 140737488351232) (hf : ∀ x ∈ X, Fits x) (h : 0 ≤ (cnt X 1 : Int) - cnt X 6 - cnt X 7) :
    Calls Try.prog 56 #[v] w fun e w' => e = .returned (.tuple #[.int .i64 ((cnt X 1 : Int) - cnt X 6 - cnt X 7), .int .i64 0]) ∧ Below w.heap.size w w' := by
  obtain ⟨a, c, rfl, _⟩ := RowAt_shape r
  have l1 := cnt_le X 1
  have l6 := cnt_le X 6
  have l7 := cnt_le X 7
  have HF := Lib.hid hf
  clear hf
  go_enter Try.func56, Try.ntmps56
  go_wp2_with fail
  refine (prog_Of_ok _ X _ r hn HF.out).mono ?_
  rintro e w1 ⟨rfl, hb1⟩
  have B1 := Lib.hid (setRow_below (arr := talV X) (hb1.alloc hb1.size (.cells #[.int .i64 0, .int .i64 0, .int .i64 0, .int .i64 0, .int .i64 0, .int .i64 0, .int .i64 0, .int .i64 0, .int .i64 0, .int .i64 0, .int .i64 0, .int .i64 0, .int .i64 0, .int .i64 0, .int .i64 0, .int .i64 0, .int .i64 0] 68)) hb1.size)
  have g1 : ((w1.alloc (.cells #[.int .i64 0, .int .i64 0, .int .i64 0, .int .i64 0, .int .i64 0, .int .i64 0, .int .i64 0, .int .i64 0, .int .i64 0, .int .i64 0, .int .i64 0, .int .i64 0, .int .i64 0, .int .i64 0, .int .i64 0, .int .i64 0, .int .i64 0] 68)).setRow w1.heap.size (talV X)).heap[w1.heap.size]? = some (.cells (talV X) 68 (0, 0)) := setRow_block (heap_at _ rfl)
  have cc : ∀ j, j < 17 → ((w1.alloc (.cells #[.int .i64 0, .int .i64 0, .int .i64 0, .int .i64 0, .int .i64 0, .int .i64 0, .int .i64 0, .int .i64 0, .int .i64 0, .int .i64 0, .int .i64 0, .int .i64 0, .int .i64 0, .int .i64 0, .int .i64 0, .int .i64 0, .int .i64 0] 68)).setRow w1.heap.size (talV X)).cell? ⟨w1.heap.size, j, none⟩ = some (.int .i64 (cnt X j)) := fun j hj => by simp only [World.cell?, g1]; simpa using talV_get X j hj
  have q1 := cc 1 (by omega)
  have q6 := cc 6 (by omega)
  have q7 := cc 7 (by omega)
  clear cc g1 hb1
  go_wp2_with (refine wpList_store_row rfl 68 (.tmp 4) (.tmp 10) rfl w1.heap.size (talV X) rfl rfl 68 (talV []) (heap_at _ rfl) (by kernel_rfl) rfl (one_talV X) ?_)
  all_goals first | (go_ret2; exact ⟨rII rfl rfl, B1.out⟩) | (exfalso; first | omega | (simp at *; omega) | (simp at *; done))

set_option maxHeartbeats 4000000 in
set_option maxRecDepth 100000 in
theorem prog_Live_state (v : Value) (X : List Out) (w : World) (r : RowAt w 7 v (X.map Out.cells)) (hn : X.length * 56 ≤ 140737488351232) (hf : ∀ x ∈ X, Fits x) (h : (cnt X 1 : Int) - cnt X 6 - cnt X 7 < 0) :
    Calls Try.prog 56 #[v] w fun e w' => e = .returned (.tuple #[.int .i64 0, .int .i64 6]) ∧ Below w.heap.size w w' := by
  obtain ⟨a, c, rfl, _⟩ := RowAt_shape r
  have l1 := cnt_le X 1
  have l6 := cnt_le X 6
  have l7 := cnt_le X 7
  have HF := Lib.hid hf
  clear hf
  go_enter Try.func56, Try.ntmps56
  go_wp2_with fail
  refine (prog_Of_ok _ X _ r hn HF.out).mono ?_
  rintro e w1 ⟨rfl, hb1⟩
  have B1 := Lib.hid (setRow_below (arr := talV X) (hb1.alloc hb1.size (.cells #[.int .i64 0, .int .i64 0, .int .i64 0, .int .i64 0, .int .i64 0, .int .i64 0, .int .i64 0, .int .i64 0, .int .i64 0, .int .i64 0, .int .i64 0, .int .i64 0, .int .i64 0, .int .i64 0, .int .i64 0, .int .i64 0, .int .i64 0] 68)) hb1.size)
  have g1 : ((w1.alloc (.cells #[.int .i64 0, .int .i64 0, .int .i64 0, .int .i64 0, .int .i64 0, .int .i64 0, .int .i64 0, .int .i64 0, .int .i64 0, .int .i64 0, .int .i64 0, .int .i64 0, .int .i64 0, .int .i64 0, .int .i64 0, .int .i64 0, .int .i64 0] 68)).setRow w1.heap.size (talV X)).heap[w1.heap.size]? = some (.cells (talV X) 68 (0, 0)) := setRow_block (heap_at _ rfl)
  have cc : ∀ j, j < 17 → ((w1.alloc (.cells #[.int .i64 0, .int .i64 0, .int .i64 0, .int .i64 0, .int .i64 0, .int .i64 0, .int .i64 0, .int .i64 0, .int .i64 0, .int .i64 0, .int .i64 0, .int .i64 0, .int .i64 0, .int .i64 0, .int .i64 0, .int .i64 0, .int .i64 0] 68)).setRow w1.heap.size (talV X)).cell? ⟨w1.heap.size, j, none⟩ = some (.int .i64 (cnt X j)) := fun j hj => by simp only [World.cell?, g1]; simpa using talV_get X j hj
  have q1 := cc 1 (by omega)
  have q6 := cc 6 (by omega)
  have q7 := cc 7 (by omega)
  clear cc g1 hb1
  go_wp2_with (refine wpList_store_row rfl 68 (.tmp 4) (.tmp 10) rfl w1.heap.size (talV X) rfl rfl 68 (talV []) (heap_at _ rfl) (by kernel_rfl) rfl (one_talV X) ?_)
  all_goals first | (go_ret2; exact ⟨rII rfl rfl, B1.out⟩) | (exfalso; first | omega | (simp at *; omega) | (simp at *; done))

set_option maxHeartbeats 4000000 in
set_option maxRecDepth 100000 in
theorem prog_Live_bad (v : Value) (X : List Out) (w : World) (r : RowAt w 7 v (X.map Out.cells)) (hn : X.length * 56 ≤ 140737488351232) (hf : ∃ x ∈ X, ¬ Fits x) :
    Calls Try.prog 56 #[v] w fun e w' => e = .returned (.tuple #[.int .i64 0, .int .i64 5]) ∧ Below w.heap.size w w' := by
  obtain ⟨a, c, rfl, _⟩ := RowAt_shape r
  have HF := Lib.hid hf
  clear hf
  go_enter Try.func56, Try.ntmps56
  go_wp2_with fail
  refine (prog_Of_bad _ X _ r hn HF.out).mono ?_
  rintro e w1 ⟨rfl, hb1⟩
  have B1 := Lib.hid (setRow_below (arr := talV []) (hb1.alloc hb1.size (.cells #[.int .i64 0, .int .i64 0, .int .i64 0, .int .i64 0, .int .i64 0, .int .i64 0, .int .i64 0, .int .i64 0, .int .i64 0, .int .i64 0, .int .i64 0, .int .i64 0, .int .i64 0, .int .i64 0, .int .i64 0, .int .i64 0, .int .i64 0] 68)) hb1.size)
  clear hb1
  go_wp2_with (refine wpList_store_row rfl 68 (.tmp 4) (.tmp 10) rfl w1.heap.size (talV []) rfl rfl 68 (talV []) (heap_at _ rfl) (by kernel_rfl) rfl (one_talV []) ?_)
  all_goals first | (go_ret2; exact ⟨rII rfl rfl, B1.out⟩) | (exfalso; first | omega | (simp at *; omega) | (simp at *; done))

set_option maxHeartbeats 4000000 in
set_option maxRecDepth 100000 in
theorem ref_LiveFlows_ok (v : Value) (X : List Out) (w : World) (r : RowAt w 7 v (X.map Out.cells)) (hn : X.length * 56 ≤ 140737488351232) (hf : ∀ x ∈ X, Fits x) (h : 0 ≤ (cnt X 1 : Int) - cnt X 6 - cnt X 7) :
    Calls Try.prog 57 #[v] w fun e w' => e = .returned (.tuple #[.int .i64 ((cnt X 1 : Int) - cnt X 6 - cnt X 7), .int .i64 0]) ∧ w = w' := by
  obtain ⟨a, c, rfl, _⟩ := RowAt_shape r
  have l1 := cnt_le X 1
  have l6 := cnt_le X 6
  have l7 := cnt_le X 7
  have e1 : X.countP (kp 1 (-1)) = cnt X 1 := cnt_kp X 1 (by omega)
  have e6 : X.countP (kp 6 (-1)) = cnt X 6 := cnt_kp X 6 (by omega)
  have e7 : X.countP (kp 7 (-1)) = cnt X 7 := cnt_kp X 7 (by omega)
  have R := Lib.hid r
  have HF := Lib.hid hf
  have HN := Lib.hid hn
  have hn2 : X.length ≤ 2600000000000 := by omega
  clear r hf hn
  go_enter Try.func57, Try.ntmps57
  go_wp2_with fail
  refine (tallyFault_ok _ X _ R.out HN.out HF.out).mono ?_
  rintro e w1 ⟨rfl, rfl⟩
  go_wp2_with (go_at_call 68; refine (countKind_any _ X _ _ _ R.out HN.out).mono ?_; rintro e w' ⟨rfl, rfl⟩)
  all_goals first | (go_ret2; exact ⟨rII rfl rfl, rfl⟩) | (exfalso; first | omega | (simp at *; omega) | (simp at *; done))

set_option maxHeartbeats 4000000 in
set_option maxRecDepth 100000 in
theorem ref_LiveFlows_state (v : Value) (X : List Out) (w : World) (r : RowAt w 7 v (X.map Out.cells)) (hn : X.length * 56 ≤ 140737488351232) (hf : ∀ x ∈ X, Fits x) (h : (cnt X 1 : Int) - cnt X 6 - cnt X 7 < 0) :
    Calls Try.prog 57 #[v] w fun e w' => e = .returned (.tuple #[.int .i64 0, .int .i64 6]) ∧ w = w' := by
  obtain ⟨a, c, rfl, _⟩ := RowAt_shape r
  have l1 := cnt_le X 1
  have l6 := cnt_le X 6
  have l7 := cnt_le X 7
  have e1 : X.countP (kp 1 (-1)) = cnt X 1 := cnt_kp X 1 (by omega)
  have e6 : X.countP (kp 6 (-1)) = cnt X 6 := cnt_kp X 6 (by omega)
  have e7 : X.countP (kp 7 (-1)) = cnt X 7 := cnt_kp X 7 (by omega)
  have R := Lib.hid r
  have HF := Lib.hid hf
  have HN := Lib.hid hn
  have hn2 : X.length ≤ 2600000000000 := by omega
  clear r hf hn
  go_enter Try.func57, Try.ntmps57
  go_wp2_with fail
  refine (tallyFault_ok _ X _ R.out HN.out HF.out).mono ?_
  rintro e w1 ⟨rfl, rfl⟩
  go_wp2_with (go_at_call 68; refine (countKind_any _ X _ _ _ R.out HN.out).mono ?_; rintro e w' ⟨rfl, rfl⟩)
  all_goals first | (go_ret2; exact ⟨rII rfl rfl, rfl⟩) | (exfalso; first | omega | (simp at *; omega) | (simp at *; done))

set_option maxHeartbeats 4000000 in
theorem ref_LiveFlows_bad (v : Value) (X : List Out) (w : World) (r : RowAt w 7 v (X.map Out.cells)) (hn : X.length * 56 ≤ 140737488351232) (hf : ∃ x ∈ X, ¬ Fits x) :
    Calls Try.prog 57 #[v] w fun e w' => e = .returned (.tuple #[.int .i64 0, .int .i64 5]) ∧ w = w' := by
  obtain ⟨a, c, rfl, _⟩ := RowAt_shape r
  have R := Lib.hid r
  have HF := Lib.hid hf
  have HN := Lib.hid hn
  clear r hf hn
  go_enter Try.func57, Try.ntmps57
  go_wp2_with fail
  refine (tallyFault_bad _ X _ R.out HN.out HF.out).mono ?_
  rintro e w1 ⟨rfl, rfl⟩
  go_wp2
  all_goals first | (go_ret2; exact ⟨rII rfl rfl, rfl⟩) | (exfalso; first | omega | (simp at *; omega) | (simp at *; done))

set_option maxHeartbeats 4000000 in
set_option maxRecDepth 100000 in
theorem live_walk (X : List Out) (n code : Int) (v0 : Value) (W : World) (r : RowAt W 7 v0 (X.map Out.cells)) (hn : X.length * 56 ≤ 140737488351232)
    (h1 : ∀ (v : Value) (w : World), RowAt w 7 v (X.map Out.cells) → Calls Try.prog 56 #[v] w fun e w' => e = .returned (.tuple #[.int .i64 n, .int .i64 code]) ∧ Below w.heap.size w w')
    (h2 : ∀ (v : Value) (w : World), RowAt w 7 v (X.map Out.cells) → Calls Try.prog 57 #[v] w fun e w' => e = .returned (.tuple #[.int .i64 n, .int .i64 code]) ∧ w = w') :
    Calls Try.prog 19 #[v0] W fun e w' => e = .returned (.bool true) ∧ Below W.heap.size W w' := by
  obtain ⟨a, c, rfl, _⟩ := RowAt_shape r
  have H1 := Lib.hid h1
  have H2 := Lib.hid h2
  clear h1 h2
  go_enter Try.func19, Try.ntmps19
  go_wp2_with fail
  refine (outputs_copy _ X _ r hn).mono ?_
  rintro e w1 ⟨v1, rfl, R1, hb1⟩
  obtain ⟨a1, c1, rfl, _⟩ := RowAt_shape R1
  have r1 := RowAt_below r hb1
  clear r
  go_wp2_with fail
  refine (H1.out _ _ R1).mono ?_
  rintro e w2 ⟨rfl, hb2⟩
  have r2 := RowAt_below r1 hb2
  have B2 := Lib.hid (hb1.trans (hb2.mono hb1.size))
  clear r1 R1 hb1 hb2
  go_wp2_with fail
  refine (H2.out _ _ r2).mono ?_
  rintro e w3 ⟨rfl, rfl⟩
  clear r2
  go_wp2
  all_goals first | (go_ret; exact ⟨rfl, B2.out⟩) | (exfalso; first | omega | (simp at *; omega) | (simp at *; done))

theorem fits_or' (X : List Out) : (∀ x ∈ X, Fits x) ∨ (∃ x ∈ X, ¬ Fits x) := by
  by_cases h : ∀ x ∈ X, Fits x
  · exact Or.inl h
  · right
    simpa using h

theorem walk_TallyLives (v0 : Value) (W : World) (o0 : Is_sl_Output W v0) :
    Calls Try.prog 19 #[v0] W fun e w' => e = .returned (.bool true) ∧ Below W.heap.size W w' := by
  obtain ⟨X, r, _, hn⟩ := o0
  rcases fits_or' X with hf | hf
  · by_cases h : 0 ≤ (cnt X 1 : Int) - cnt X 6 - cnt X 7
    · exact live_walk X _ 0 v0 W r hn (fun v w r => prog_Live_ok v X w r hn hf h) (fun v w r => ref_LiveFlows_ok v X w r hn hf h)
    · exact live_walk X 0 6 v0 W r hn (fun v w r => prog_Live_state v X w r hn hf (by omega)) (fun v w r => ref_LiveFlows_state v X w r hn hf (by omega))
  · exact live_walk X 0 5 v0 W r hn (fun v w r => prog_Live_bad v X w r hn hf) (fun v w r => ref_LiveFlows_bad v X w r hn hf)
end Go.Proofs.Ytehodcjnbkkkeaa
