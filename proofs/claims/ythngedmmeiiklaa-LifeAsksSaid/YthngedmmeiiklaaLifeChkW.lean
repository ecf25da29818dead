/- The walk of LifeChecks. -/
import Derived.Test.YthngedmmeiiklaaLifeFlt
import Derived.Test.YthngedmmeiiklaaBookCopy
namespace Go.Proofs.Ythngedmmeiiklaa
open Go.RowKit

theorem law_books (vl vr : Value) (L : List Lf) (R : List Rq) (w : World) (hl : RowAt w 6 vl (L.map Lf.cells)) (hr : RowAt w 5 vr (R.map Rq.cells)) (hn1 : L.length * 48 ≤ 140737488351232) (hn2 : R.length * 40 ≤ 140737488351232) :
    Calls Try.prog 9 #[.agg #[vl, vr]] w (BkPost w L R) := by
  have K := fun w' h1 h2 => ref_BookCopy vl vr L R w' h1 h2 hn1 hn2
  have HL := Lib.hid hl
  have HR := Lib.hid hr
  have HK := Lib.hid K
  clear K hl hr hn1 hn2
  go_enter Try.func9, Try.ntmps9
  go_wp2_with fail
  refine (HK.out _ (RowAt_alloc (RowAt_alloc HL.out _) _) (RowAt_alloc (RowAt_alloc HR.out _) _)).mono ?_
  rintro e w1 ⟨v1, v2, rfl, R1, R2, hb1⟩
  obtain ⟨a1, c1, rfl, _⟩ := RowAt_shape R1.1
  obtain ⟨a2, c2, rfl, _⟩ := RowAt_shape R2.1
  obtain ⟨a, c, rfl, _⟩ := RowAt_shape HL.out
  obtain ⟨a', c', rfl, _⟩ := RowAt_shape HR.out
  obtain ⟨hc1, hf1⟩ := bcell hb1
  have hz1 := blt hb1
  have hy1 := hb1.size
  simp at hy1
  have R1' := Lib.hid R1
  have R2' := Lib.hid R2
  clear R1 R2
  go_wp2
  refine bodyPost_ret (v := .agg #[.slice a1 L.length c1, .slice a2 R.length c2]) ?_ rfl ?_
  rotate_left
  · exact ⟨_, _, rfl, RowNew_mono (RowNew_setCell (RowNew_setCell R1'.out (by simp) _) (by simp) _) (by simp; omega), RowNew_mono (RowNew_setCell (RowNew_setCell R2'.out (by simp) _) (by simp) _) (by simp; omega), (by repeat (first | (with_reducible exact Below.refl _ _) | (with_reducible assumption) | (with_reducible refine Below.drew ?_) | (with_reducible refine Below_drewN ?_) | (with_reducible refine Below.alloc ?_ (by first | omega | (simp; done) | (simp; omega)) _) | (with_reducible refine Below.setCell ?_ (by first | omega | (simp; done) | (simp; omega)) _) | (with_reducible refine Below.trans ?_ (Below.mono (by assumption) (by first | omega | (simp; done) | (simp; omega))))))⟩
  simp [results, Try.results9, go_sem, *]

set_option maxHeartbeats 4000000 in
set_option maxRecDepth 100000 in
theorem walk_LifeChecks (v0 : Value) (W : World) (o0 : Is_Book W v0) :
    Calls Try.prog 3 #[v0] W fun e w' => e = .returned (.bool true) ∧ Below W.heap.size W w' := by
  obtain ⟨vl, vr, L, R, rfl, hl, hr, _, _, hn1, hn2⟩ := o0
  obtain ⟨r, hr6⟩ := BkCode_total L R
  have HC := Lib.hid hr6
  have HL := Lib.hid hl
  have HR := Lib.hid hr
  obtain ⟨a, c, rfl, _⟩ := RowAt_shape hl
  obtain ⟨a', c', rfl, _⟩ := RowAt_shape hr
  clear hl hr hr6
  go_enter Try.func3, Try.ntmps3
  go_wp2_with fail
  refine (law_books _ _ L R _ (RowAt_alloc HL.out _) (RowAt_alloc HR.out _) hn1 hn2).mono ?_
  rintro e w1 ⟨v1, v2, rfl, R1, R2, hb1⟩
  obtain ⟨a1, c1, rfl, _⟩ := RowAt_shape R1.1
  obtain ⟨a2, c2, rfl, _⟩ := RowAt_shape R2.1
  obtain ⟨hc1, hf1⟩ := bcell hb1
  have B1 := Lib.hid ((((Below.refl W.heap.size W).alloc (Nat.le_refl _) _)).trans (hb1.mono (by simp)))
  have R1' := Lib.hid R1.1
  have R2' := Lib.hid R2.1
  have s1 := hb1.size
  simp at s1
  have k1 : W.heap.size < w1.heap.size := by omega
  clear R1 R2 hb1
  go_wp2_with fail
  refine (prog_LCheck _ _ L R r _ R1'.out R2'.out HC.out).mono ?_
  rintro e w2 ⟨rfl, hb2⟩
  obtain ⟨hc2, hf2⟩ := bcell hb2
  have B2 := Lib.hid (B1.out.trans (hb2.mono (by omega)))
  have s2 := hb2.size
  have k2 : W.heap.size < w2.heap.size := by omega
  have L2 := Lib.hid (RowAt_below HL.out B2.out)
  have Q2 := Lib.hid (RowAt_below HR.out B2.out)
  clear hb2 B1 R1' R2'
  go_wp2_with fail
  refine (ref_BookFault _ _ L R r _ L2.out Q2.out HC.out).mono ?_
  rintro e w3 ⟨rfl, hb3⟩
  have B3 := Lib.hid (B2.out.trans (hb3.mono (by omega)))
  clear hb3
  go_wp2
  all_goals first | (go_ret; exact ⟨rfl, B3.out⟩) | (exfalso; first | omega | (simp at *; omega) | (simp at *; done))
end Go.Proofs.Ythngedmmeiiklaa
