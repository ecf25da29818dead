/- The walk of TableOfs. -/
import Derived.Test.YtbemdijjdeimgaaTabOfP
import Derived.Test.YtbemdijjdeimgaaTabCopy
import Derived.Test.YtbemdijjdeimgaaSameHandles
import Derived.Deep.RegionWith
namespace Go.Proofs.Ytbemdijjdeimgaa
open Go.RowKit

/-- The end of Of on either side: a list and a number. -/
def OfEnd (w : World) (L : List Hd) (code : Int) (e : Ending) (w' : World) : Prop := ∃ v, e = .returned (.tuple #[v, .int .i64 code]) ∧ RowAt w' 2 v (L.map Hd.cells) ∧ Below w.heap.size w w'

theorem RowAt_none (w : World) (sz : Nat) : RowAt w sz (.slice none 0 0) [] := ⟨none, 0, rfl, by simp, by unfold maxLen; omega, fun _ => rfl, fun h => absurd rfl h⟩

set_option maxHeartbeats 4000000 in
set_option maxRecDepth 100000 in
theorem tabof_walk (X : List Sl) (L : List Hd) (b code : Int) (s : Value) (W : World) (r : RowAt W 4 s (X.map Sl.cells)) (hn : X.length * 32 ≤ 140737488351232)
    (h1 : ∀ (v : Value) (w : World), RowAt w 4 v (X.map Sl.cells) → Calls Try.prog 15 #[.agg #[v], .int .i64 b] w (OfEnd w L code))
    (h2 : ∀ (v : Value) (w : World), RowAt w 4 v (X.map Sl.cells) → Calls Try.prog 16 #[.agg #[v], .int .i64 b] w (OfEnd w L code)) :
    Calls Try.prog 5 #[.agg #[s], .int .i64 b] W fun e w' => e = .returned (.bool true) ∧ Below W.heap.size W w' := by
  obtain ⟨a, c, rfl, _⟩ := RowAt_shape r
  have H1 := Lib.hid h1
  have H2 := Lib.hid h2
  have R := Lib.hid r
  have HN := Lib.hid hn
  clear h1 h2 r hn
  go_enter Try.func5, Try.ntmps5
  go_wp2_with fail
  refine (tables_copy _ X _ (RowAt_alloc R.out _) HN.out).mono ?_
  rintro e w1 ⟨v1, rfl, R1, hb1⟩
  obtain ⟨a1, c1, rfl, _⟩ := RowAt_shape R1.1
  obtain ⟨hc1, hf1⟩ := bcell hb1
  have B1 := Lib.hid (((Below.refl W.heap.size W).alloc (Nat.le_refl _) _).trans (hb1.mono (by simp)))
  have R1' := Lib.hid R1.1
  have s1 := hb1.size
  simp at s1
  have k1 : W.heap.size < w1.heap.size := by omega
  clear R1 hb1
  go_wp2_with fail
  refine (H1.out _ _ R1'.out).mono ?_
  rintro e w2 ⟨v2, rfl, R2, hb2⟩
  obtain ⟨a2, c2, rfl, _⟩ := RowAt_shape R2
  obtain ⟨hc2, hf2⟩ := bcell hb2
  have B2 := Lib.hid (B1.out.trans (hb2.mono (by omega)))
  have s2 := hb2.size
  have k2 : W.heap.size < w2.heap.size := by omega
  have r2 := Lib.hid (RowAt_below R.out B2.out)
  have R2' := Lib.hid R2
  clear hb2 R1' B1 R2
  go_wp2_with fail
  refine (H2.out _ _ r2.out).mono ?_
  rintro e w3 ⟨v3, rfl, R3, hb3⟩
  obtain ⟨a3, c3, rfl, _⟩ := RowAt_shape R3
  obtain ⟨hc3, hf3⟩ := bcell hb3
  have B3 := Lib.hid (B2.out.trans (hb3.mono (by omega)))
  have R2b := Lib.hid (RowAt_below R2'.out hb3)
  have R3' := Lib.hid R3
  have s3 := hb3.size
  have k3 : W.heap.size < w3.heap.size := by omega
  clear hb3 r2 B2 R3 R2'
  go_wp2_with fail
  refine (sameHandles_yes _ _ L _ R2b.out R3'.out).mono ?_
  rintro e w4 ⟨rfl, hb4⟩
  have B4 := Lib.hid (B3.out.trans (hb4.mono (by omega)))
  clear hb4
  go_wp2
  all_goals first | (go_ret; exact ⟨rfl, B4.out⟩) | (exfalso; first | omega | (simp at *; omega) | (simp at *; done))

theorem prog_Of_any (X : List Sl) (b : Int) (v : Value) (w : World) (r : RowAt w 4 v (X.map Sl.cells)) (h : TabMay X) : Calls Try.prog 15 #[.agg #[v], .int .i64 b] w (OfEnd w (ofL X b X.length) 0) := by
  have r' := r
  obtain ⟨a, c, rfl, l, m, n, p⟩ := RowAt_fn Sl.zero r
  obtain ⟨b0, o, rfl, hb, q⟩ := p (by intro hX; rw [hX] at h; exact absurd h.1 (by simp))
  refine (prog_Of_ok b0 o c X b w hb h r' q).mono ?_
  rintro e w1 ⟨v1, rfl, R1, hb1⟩
  exact ⟨v1, rfl, R1.1, hb1⟩
theorem ref_Of_any (X : List Sl) (b : Int) (v : Value) (w : World) (r : RowAt w 4 v (X.map Sl.cells)) (h : TabMay X) : Calls Try.prog 16 #[.agg #[v], .int .i64 b] w (OfEnd w (ofL X b X.length) 0) := by
  have r' := r
  obtain ⟨a, c, rfl, l, m, n, p⟩ := RowAt_fn Sl.zero r
  obtain ⟨b0, o, rfl, hb, q⟩ := p (by intro hX; rw [hX] at h; exact absurd h.1 (by simp))
  refine (FlowsOf_ok b0 o c X b w hb h r' q).mono ?_
  rintro e w1 ⟨v1, rfl, R1, hb1⟩
  exact ⟨v1, rfl, R1.1, hb1⟩

theorem walk_TableOfs (v0 v1 : Value) (W : World) (o0 : Is_Table W v0) (o1 : Is_int W v1) :
    Calls Try.prog 5 #[v0, v1] W fun e w' => e = .returned (.bool true) ∧ Below W.heap.size W w' := by
  obtain ⟨s, X, rfl, r, _, hn⟩ := o0
  obtain ⟨b, rfl, _⟩ := o1
  by_cases h : TabMay X
  · exact tabof_walk X (ofL X b X.length) b 0 s W r hn (fun v w r => prog_Of_any X b v w r h) (fun v w r => ref_Of_any X b v w r h)
  · refine tabof_walk X [] b 6 s W r hn (fun v w r => (prog_Of_bad v X b w r h).mono ?_) (fun v w r => (FlowsOf_bad v X b w r h).mono ?_)
    all_goals
      rintro e w1 ⟨rfl, hb1⟩
      exact ⟨_, rfl, RowAt_none _ _, hb1⟩
end Go.Proofs.Ytbemdijjdeimgaa
