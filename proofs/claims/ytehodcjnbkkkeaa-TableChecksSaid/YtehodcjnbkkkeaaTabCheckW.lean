/- The walk of TableChecks. -/
import Derived.Test.YtehodcjnbkkkeaaTabFault
import Derived.Test.YtehodcjnbkkkeaaTabCopy
namespace Go.Proofs.Ytehodcjnbkkkeaa
open Go.RowKit

set_option maxHeartbeats 2000000 in
set_option maxRecDepth 100000 in
theorem tabcheck_walk (X : List Sl) (code : Int) (s : Value) (W : World) (r : RowAt W 4 s (X.map Sl.cells)) (hn : X.length * 32 ≤ 140737488351232)
    (h1 : ∀ (v : Value) (w : World), RowAt w 4 v (X.map Sl.cells) → Calls Try.prog 53 #[.agg #[v]] w fun e w' => e = .returned (.int .i64 code) ∧ Below w.heap.size w w')
    (h2 : ∀ (v : Value) (w : World), RowAt w 4 v (X.map Sl.cells) → Calls Try.prog 55 #[.agg #[v]] w fun e w' => e = .returned (.int .i64 code) ∧ Below w.heap.size w w') :
    Calls Try.prog 18 #[.agg #[s]] W fun e w' => e = .returned (.bool true) ∧ Below W.heap.size W w' := by
  obtain ⟨a, c, rfl, _⟩ := RowAt_shape r
  have H1 := Lib.hid h1
  have H2 := Lib.hid h2
  have R := Lib.hid r
  have HN := Lib.hid hn
  clear h1 h2 r hn
  go_enter Try.func18, Try.ntmps18
  go_wp2_with fail
  refine (tables_copy _ X _ (RowAt_alloc R.out _) HN.out).mono ?_
  rintro e w1 ⟨v1, rfl, R1, hb1⟩
  obtain ⟨a1, c1, rfl, _⟩ := RowAt_shape R1.1
  obtain ⟨hc1, hf1⟩ := bcell hb1
  have hz1 := blt hb1
  have B1 := Lib.hid (((Below.refl W.heap.size W).alloc (Nat.le_refl _) _).trans (hb1.mono (by simp)))
  have r1 := Lib.hid (RowAt_below (RowAt_alloc R.out _) hb1)
  have R1' := Lib.hid R1.1
  have s1 := hb1.size
  simp at s1
  clear R1 hb1 R
  go_wp2_with fail
  refine (H1.out _ _ R1'.out).mono ?_
  rintro e w2 ⟨rfl, hb2⟩
  obtain ⟨hc2, hf2⟩ := bcell hb2
  have hz2 := blt hb2
  have B2 := Lib.hid (B1.out.trans (hb2.mono (by omega)))
  have r2 := Lib.hid (RowAt_below r1.out hb2)
  clear hb2 r1 R1' B1
  go_wp2_with fail
  refine (H2.out _ _ r2.out).mono ?_
  rintro e w3 ⟨rfl, hb3⟩
  have B3 := Lib.hid (B2.out.trans (hb3.mono (by have := hz2 W.heap.size (by omega); omega)))
  clear hb3 r2 B2
  go_wp2
  all_goals first | (go_ret; exact ⟨rfl, B3.out⟩) | (exfalso; first | omega | (simp at *; omega) | (simp at *; done))

theorem walk_TableChecks (v0 : Value) (W : World) (o0 : Is_Table W v0) :
    Calls Try.prog 18 #[v0] W fun e w' => e = .returned (.bool true) ∧ Below W.heap.size W w' := by
  obtain ⟨s, X, rfl, r, _, hn⟩ := o0
  by_cases h : TabMay X
  · exact tabcheck_walk X 0 s W r hn (fun v w r => tabCheck_ok v X w r h) (fun v w r => tabFault_ok v X w r h)
  · exact tabcheck_walk X 6 s W r hn (fun v w r => tabCheck_bad v X w r h) (fun v w r => tabFault_bad v X w r h)
end Go.Proofs.Ytehodcjnbkkkeaa
