/- The walk of RingChecks. -/
import Derived.Test.YtmhbkpgacdmjpaaRgW
import Derived.Test.YtmhbkpgacdmjpaaRgCopy
import Derived.Test.YtmhbkpgacdmjpaaOpenRg
namespace Go.Proofs.Ytmhbkpgacdmjpaa
open Go.RowKit

set_option maxHeartbeats 2000000 in
set_option maxRecDepth 100000 in
theorem rgcheck_walk (X : List Sp) (code : Int) (s : Value) (W : World) (r : RowAt W 2 s (X.map Sp.cells)) (hn : X.length * 16 ≤ 140737488351232)
    (h1 : ∀ (v : Value) (w : World), RowAt w 2 v (X.map Sp.cells) → Calls Try.prog 7 #[.agg #[v]] w fun e w' => e = .returned (.int .i64 code) ∧ Below w.heap.size w w')
    (h2 : ∀ (v : Value) (w : World), RowAt w 2 v (X.map Sp.cells) → Calls Try.prog 9 #[.agg #[v]] w fun e w' => e = .returned (.int .i64 code) ∧ Below w.heap.size w w') :
    Calls Try.prog 3 #[.agg #[s]] W fun e w' => e = .returned (.bool true) ∧ Below W.heap.size W w' := by
  obtain ⟨a, c, rfl, _⟩ := RowAt_shape r
  have H1 := Lib.hid h1
  have H2 := Lib.hid h2
  have R := Lib.hid r
  have HN := Lib.hid hn
  clear h1 h2 r hn
  go_enter Try.func3, Try.ntmps3
  go_wp2_with fail
  refine (rings_copy _ X _ (RowAt_alloc R.out _) HN.out).mono ?_
  rintro e w1 ⟨v1, rfl, R1, hb1⟩
  obtain ⟨a1, c1, rfl, _⟩ := RowAt_shape R1.1
  obtain ⟨hc1, hf1⟩ := bcell hb1
  have hz1 := blt hb1
  have B1 := Lib.hid (((Below.refl W.heap.size W).alloc (Nat.le_refl _) _).trans (hb1.mono (by simp)))
  have r1 := Lib.hid (RowAt_below (RowAt_alloc R.out _) hb1)
  have R1' := Lib.hid R1.1
  have s1 := hb1.size
  simp at s1
  clear R1 hb1 R
  go_wp2_with fail
  refine (H1.out _ _ R1'.out).mono ?_
  rintro e w2 ⟨rfl, hb2⟩
  obtain ⟨hc2, hf2⟩ := bcell hb2
  have hz2 := blt hb2
  have B2 := Lib.hid (B1.out.trans (hb2.mono (by omega)))
  have r2 := Lib.hid (RowAt_below r1.out hb2)
  clear hb2 r1 R1' B1
  go_wp2_with fail
  refine (H2.out _ _ r2.out).mono ?_
  rintro e w3 ⟨rfl, hb3⟩
  have B3 := Lib.hid (B2.out.trans (hb3.mono (by have := hz2 W.heap.size (by omega); omega)))
  clear hb3 r2 B2
  go_wp2
  all_goals first | (go_ret; exact ⟨rfl, B3.out⟩) | (exfalso; first | omega | (simp at *; omega) | (simp at *; done))

theorem walk_RingChecks (v0 : Value) (W : World) (o0 : Is_Ring W v0) :
    Calls Try.prog 3 #[v0] W fun e w' => e = .returned (.bool true) ∧ Below W.heap.size W w' := by
  obtain ⟨s, X, rfl, r, _, hn⟩ := o0
  by_cases h : RgMay X
  · exact rgcheck_walk X 0 s W r hn (fun v w r => prog_RgCheck v X w r hn 0 (Or.inl ⟨h, rfl⟩)) (fun v w r => ref_RgFault v X w r 0 (Or.inl ⟨h, rfl⟩))
  · exact rgcheck_walk X 6 s W r hn (fun v w r => prog_RgCheck v X w r hn 6 (Or.inr ⟨h, rfl⟩)) (fun v w r => ref_RgFault v X w r 6 (Or.inr ⟨h, rfl⟩))
end Go.Proofs.Ytmhbkpgacdmjpaa
