/- The walk of TableCounts. -/
import Derived.Test.YtbemdijjdeimgaaTabCnt
import Derived.Test.YtbemdijjdeimgaaSameInts
namespace Go.Proofs.Ytbemdijjdeimgaa
open Go.RowKit

set_option maxHeartbeats 4000000 in
set_option maxRecDepth 100000 in
theorem tabcnt_walk (X : List Sl) (L : List Int) (code : Int) (s : Value) (W : World) (r : RowAt W 4 s (X.map Sl.cells)) (hn : X.length * 32 ≤ 140737488351232)
    (h1 : ∀ (v : Value) (w : World), RowAt w 4 v (X.map Sl.cells) → Calls Try.prog 12 #[.agg #[v]] w (CntPost w L code))
    (h2 : ∀ (v : Value) (w : World), RowAt w 4 v (X.map Sl.cells) → Calls Try.prog 13 #[.agg #[v]] w (CntPost w L code)) :
    Calls Try.prog 4 #[.agg #[s]] W fun e w' => e = .returned (.bool true) ∧ Below W.heap.size W w' := by
  obtain ⟨a, c, rfl, _⟩ := RowAt_shape r
  have H1 := Lib.hid h1
  have H2 := Lib.hid h2
  have R := Lib.hid r
  have HN := Lib.hid hn
  clear h1 h2 r hn
  go_enter Try.func4, Try.ntmps4
  go_wp2_with fail
  refine (tables_copy _ X _ (RowAt_alloc R.out _) HN.out).mono ?_
  rintro e w1 ⟨v1, rfl, R1, hb1⟩
  obtain ⟨a1, c1, rfl, _⟩ := RowAt_shape R1.1
  obtain ⟨hc1, hf1⟩ := bcell hb1
  have B1 := Lib.hid (((Below.refl W.heap.size W).alloc (Nat.le_refl _) _).trans (hb1.mono (by simp)))
  have R1' := Lib.hid R1.1
  have s1 := hb1.size
  simp at s1
  have k1 : W.heap.size < w1.heap.size := by omega
  clear R1 hb1
  go_wp2_with fail
  refine (H1.out _ _ R1'.out).mono ?_
  rintro e w2 ⟨v2, rfl, R2, hb2⟩
  obtain ⟨a2, c2, rfl, _⟩ := RowAt_shape R2.1
  obtain ⟨hc2, hf2⟩ := bcell hb2
  have B2 := Lib.hid (B1.out.trans (hb2.mono (by omega)))
  have s2 := hb2.size
  have k2 : W.heap.size < w2.heap.size := by omega
  have r2 := Lib.hid (RowAt_below R.out B2.out)
  have R2' := Lib.hid R2.1
  clear hb2 R1' B1 R2
  go_wp2_with fail
  refine (H2.out _ _ r2.out).mono ?_
  rintro e w3 ⟨v3, rfl, R3, hb3⟩
  obtain ⟨a3, c3, rfl, _⟩ := RowAt_shape R3.1
  obtain ⟨hc3, hf3⟩ := bcell hb3
  have B3 := Lib.hid (B2.out.trans (hb3.mono (by omega)))
  have R2b := Lib.hid (RowAt_below R2'.out hb3)
  have R3' := Lib.hid R3.1
  have s3 := hb3.size
  have k3 : W.heap.size < w3.heap.size := by omega
  clear hb3 r2 B2 R3 R2'
  go_wp2_with fail
  refine (sameInts_yes _ _ L _ R2b.out R3'.out).mono ?_
  rintro e w4 ⟨rfl, hb4⟩
  have B4 := Lib.hid (B3.out.trans (hb4.mono (by omega)))
  clear hb4
  go_wp2
  all_goals first | (go_ret; exact ⟨rfl, B4.out⟩) | (exfalso; first | omega | (simp at *; omega) | (simp at *; done))

theorem walk_TableCounts (v0 : Value) (W : World) (o0 : Is_Table W v0) :
    Calls Try.prog 4 #[v0] W fun e w' => e = .returned (.bool true) ∧ Below W.heap.size W w' := by
  obtain ⟨s, X, rfl, r, _, hn⟩ := o0
  by_cases h : TabMay X
  · refine tabcnt_walk X (cntL X X.length) 0 s W r hn (fun v w r => ?_) (fun v w r => ?_)
    all_goals
      have r' := r
      obtain ⟨a, c, rfl, l, m, n, p⟩ := RowAt_fn Sl.zero r
      obtain ⟨b0, o, rfl, hb, q⟩ := p (by intro hX; rw [hX] at h; exact absurd h.1 (by simp))
    · exact prog_Counts_row b0 o c X w hb h r' q
    · exact ref_Counts_row b0 o c X w hb h r' q
  · exact tabcnt_walk X [] 6 s W r hn (fun v w r => prog_Counts_bad v X w r h) (fun v w r => ref_Counts_bad v X w r h)
end Go.Proofs.Ytbemdijjdeimgaa
