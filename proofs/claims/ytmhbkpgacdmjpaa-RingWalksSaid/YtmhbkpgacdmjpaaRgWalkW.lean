/- The walk of RingWalks. -/
import Derived.Test.YtmhbkpgacdmjpaaRgWalkP
import Derived.Test.YtmhbkpgacdmjpaaSameInts
import Derived.Test.YtmhbkpgacdmjpaaRgCopy
import Derived.Test.YtmhbkpgacdmjpaaOpenRg
import Derived.Test.YtmhbkpgacdmjpaaOwn
namespace Go.Proofs.Ytmhbkpgacdmjpaa
open Go.RowKit

set_option maxHeartbeats 4000000 in
set_option maxRecDepth 100000 in
theorem RingWalks_w (X : List Sp) (Y : List Int) (b : Int) (code : Int) (s : Value) (W : World) (r : RowAt W 2 s (X.map Sp.cells)) (hn : X.length * 16 ≤ 140737488351232)
    (h1 : ∀ (v : Value) (w : World), RowAt w 2 v (X.map Sp.cells) → Calls Try.prog 15 #[.agg #[v], .int .i64 b] w (WalkPost w Y code))
    (h2 : ∀ (v : Value) (w : World), RowAt w 2 v (X.map Sp.cells) → Calls Try.prog 16 #[.agg #[v], .int .i64 b] w (WalkPost w Y code)) :
    Calls Try.prog 6 #[.agg #[s], .int .i64 b] W fun e w' => e = .returned (.bool true) ∧ Below W.heap.size W w' := by
  obtain ⟨a, c, rfl, _⟩ := RowAt_shape r
  have H1 := Lib.hid h1
  have H2 := Lib.hid h2
  have R := Lib.hid r
  have HN := Lib.hid hn
  clear h1 h2 r hn
  go_enter Try.func6, Try.ntmps6
  go_wp2_with fail
  refine (rings_copy _ X _ (RowAt_alloc R.out _) HN.out).mono ?_
  rintro e w1 ⟨v1, rfl, R1, hb1⟩
  obtain ⟨a1, c1, rfl, _⟩ := RowAt_shape R1.1
  have B1 := Lib.hid (((Below.refl W.heap.size W).alloc (by first | omega | (simp; done) | (simp; omega)) _).trans (hb1.mono (by first | omega | (simp; done) | (simp; omega))))
  have Rc := Lib.hid R1.1
  obtain ⟨hc1, hf1⟩ := bcell hb1
  have hz1 := blt hb1
  have s1 := hb1.size
  simp at s1
  (try have kw1_0 : W.heap.size < w1.heap.size := by omega); (try have kw1_1 : W.heap.size + 1 < w1.heap.size := by omega); (try have kw1_2 : W.heap.size + 1 + 1 < w1.heap.size := by omega)
  have Rt := Lib.hid (RowAt_below R.out B1.out)
  clear R1 hb1
  go_wp2_with fail
  refine (H1.out _ _ (by repeat (first | (exact Rc.out) | (with_reducible refine RowAt_alloc ?_ _) | (with_reducible refine RowAt_drewN ?_ _)))).mono ?_
  rintro e w2 ⟨v2, rfl, R2, hb2⟩
  obtain ⟨a2, c2, rfl, _⟩ := RowAt_shape (f := fun x : Int => [Value.int .i64 x]) R2.1
  have B2 := Lib.hid (show Below W.heap.size W w2 from (by refine Below.trans ?_ (Below.mono hb2 (by first | omega | (simp; done) | (simp; omega))); repeat (first | (with_reducible exact B1.out) | (with_reducible refine Below.drew ?_) | (with_reducible refine Below_drewN ?_) | (with_reducible refine Below.alloc ?_ (by first | omega | (simp; done) | (simp; omega)) _) | (with_reducible refine Below.setCell ?_ (by first | omega | (simp; done) | (simp; omega)) _))))
  have Ra := Lib.hid R2.1
  obtain ⟨hc2, hf2⟩ := bcell hb2
  have hz2 := blt hb2
  have s2 := hb2.size
  simp at s2
  (try have kw2_0 : W.heap.size < w2.heap.size := by omega); (try have kw2_1 : W.heap.size + 1 < w2.heap.size := by omega); (try have kw2_2 : W.heap.size + 1 + 1 < w2.heap.size := by omega)
  (try have m21 : w1.heap.size < w2.heap.size := by omega)
  have Rc2 := Lib.hid ((by repeat (first | (exact Rc.out) | (with_reducible refine RowAt_alloc ?_ _) | (with_reducible refine RowAt_drewN ?_ _) | (refine RowAt_below ?_ ( hb2)))) : RowAt w2 2 (.slice a1 X.length c1) (X.map Sp.cells))
  have Rt2 := Lib.hid (RowAt_below R.out B2.out)
  clear R2 hb2 Rc Rt B1
  have n21 : w1.heap.size < w2.heap.size + 1 + 1 := by omega
  have n20 : W.heap.size < w2.heap.size + 1 + 1 := by omega
  go_wp2_with fail
  refine (H2.out _ _ (by repeat (first | (exact Rt2.out) | (with_reducible refine RowAt_alloc ?_ _) | (with_reducible refine RowAt_drewN ?_ _)))).mono ?_
  rintro e w3 ⟨v3, rfl, R3, hb3⟩
  obtain ⟨a3, c3, rfl, _⟩ := RowAt_shape (f := fun x : Int => [Value.int .i64 x]) R3.1
  have B3 := Lib.hid (show Below W.heap.size W w3 from (by refine Below.trans ?_ (Below.mono hb3 (by first | omega | (simp; done) | (simp; omega))); repeat (first | (with_reducible exact B2.out) | (with_reducible refine Below.drew ?_) | (with_reducible refine Below_drewN ?_) | (with_reducible refine Below.alloc ?_ (by first | omega | (simp; done) | (simp; omega)) _) | (with_reducible refine Below.setCell ?_ (by first | omega | (simp; done) | (simp; omega)) _))))
  have Rb := Lib.hid R3.1
  obtain ⟨hc3, hf3⟩ := bcell hb3
  have hz3 := blt hb3
  have s3 := hb3.size
  (try simp at s3)
  (try have kw3_0 : W.heap.size < w3.heap.size := by omega); (try have kw3_1 : W.heap.size + 1 < w3.heap.size := by omega); (try have kw3_2 : W.heap.size + 1 + 1 < w3.heap.size := by omega)
  (try have m31 : w1.heap.size < w3.heap.size := by omega)
  (try have m32 : w2.heap.size < w3.heap.size := by omega)
  (try have m33 : w2.heap.size + 1 < w3.heap.size := by omega)
  have Ra3 := Lib.hid ((by repeat (first | (exact Ra.out) | (with_reducible refine RowAt_alloc ?_ _) | (with_reducible refine RowAt_drewN ?_ _) | (refine RowAt_below ?_ ( hb3)))) : RowAt w3 1 (.slice a2 Y.length c2) (Y.map fun x => [Value.int .i64 x]))
  have Rc3 := Lib.hid ((by repeat (first | (exact Rc2.out) | (with_reducible refine RowAt_alloc ?_ _) | (with_reducible refine RowAt_drewN ?_ _) | (refine RowAt_below ?_ ( hb3)))) : RowAt w3 2 (.slice a1 X.length c1) (X.map Sp.cells))
  have Rt3 := Lib.hid (RowAt_below R.out B3.out)
  clear R3 hb3 Rc2 Rt2 B2 Ra
  have n31 : w1.heap.size < w3.heap.size + 1 + 1 := by omega
  have n32 : w2.heap.size < w3.heap.size + 1 + 1 := by omega
  have n33 : w2.heap.size + 1 < w3.heap.size + 1 + 1 := by omega
  have n30 : W.heap.size < w3.heap.size + 1 + 1 := by omega
  go_wp2_with fail
  refine (sameInts_yes _ _ Y _ (by repeat (first | (exact Ra3.out) | (with_reducible refine RowAt_alloc ?_ _) | (with_reducible refine RowAt_drewN ?_ _))) (by repeat (first | (exact Rb.out) | (with_reducible refine RowAt_alloc ?_ _) | (with_reducible refine RowAt_drewN ?_ _)))).mono ?_
  rintro e w4 ⟨rfl, hb4⟩
  have B4 := Lib.hid (show Below W.heap.size W w4 from (by refine Below.trans ?_ (Below.mono hb4 (by first | omega | (simp; done) | (simp; omega))); repeat (first | (with_reducible exact B3.out) | (with_reducible refine Below.drew ?_) | (with_reducible refine Below_drewN ?_) | (with_reducible refine Below.alloc ?_ (by first | omega | (simp; done) | (simp; omega)) _) | (with_reducible refine Below.setCell ?_ (by first | omega | (simp; done) | (simp; omega)) _))))
  obtain ⟨hc4, hf4⟩ := bcell hb4
  have hz4 := blt hb4
  have s4 := hb4.size
  (try simp at s4)
  (try have kw4_0 : W.heap.size < w4.heap.size := by omega); (try have kw4_1 : W.heap.size + 1 < w4.heap.size := by omega); (try have kw4_2 : W.heap.size + 1 + 1 < w4.heap.size := by omega)
  (try have m41 : w1.heap.size < w4.heap.size := by omega)
  (try have m42 : w2.heap.size < w4.heap.size := by omega)
  (try have m43 : w3.heap.size < w4.heap.size := by omega)
  have Rc4 := Lib.hid ((by repeat (first | (exact Rc3.out) | (with_reducible refine RowAt_alloc ?_ _) | (with_reducible refine RowAt_drewN ?_ _) | (refine RowAt_below ?_ ( hb4)))) : RowAt w4 2 (.slice a1 X.length c1) (X.map Sp.cells))
  have Rt4 := Lib.hid (RowAt_below R.out B4.out)
  clear hb4 Ra3 Rb Rc3 Rt3 B3
  go_wp2_with fail
  refine (sameRingD _ _ X X _ (by repeat (first | (exact Rc4.out) | (with_reducible refine RowAt_alloc ?_ _) | (with_reducible refine RowAt_drewN ?_ _))) (by repeat (first | (exact Rt4.out) | (with_reducible refine RowAt_alloc ?_ _) | (with_reducible refine RowAt_drewN ?_ _))) true (Or.inl ⟨rfl, rfl⟩)).mono ?_
  rintro e w5 ⟨rfl, hb5⟩
  have B5 := Lib.hid (show Below W.heap.size W w5 from (by refine Below.trans ?_ (Below.mono hb5 (by first | omega | (simp; done) | (simp; omega))); repeat (first | (with_reducible exact B4.out) | (with_reducible refine Below.drew ?_) | (with_reducible refine Below_drewN ?_) | (with_reducible refine Below.alloc ?_ (by first | omega | (simp; done) | (simp; omega)) _) | (with_reducible refine Below.setCell ?_ (by first | omega | (simp; done) | (simp; omega)) _))))
  clear hb5
  go_wp2
  all_goals first | (go_ret; exact ⟨rfl, B5.out⟩) | (exfalso; first | omega | (simp at *; omega) | (simp at *; done))

theorem walk_RingWalks (v0 v1 : Value) (W : World) (o0 : Is_Ring W v0) (o1 : Is_int W v1) :
    Calls Try.prog 6 #[v0, v1] W fun e w' => e = .returned (.bool true) ∧ Below W.heap.size W w' := by
  obtain ⟨s, X, rfl, r, _, hn⟩ := o0
  obtain ⟨b, rfl, _⟩ := o1
  obtain ⟨Y, code, h⟩ := WalkAns_total X b
  exact RingWalks_w X Y b code s W r hn (fun v w r => prog_RgWalk v X w b Y code r hn h) (fun v w r => ref_RgWalk v X w b Y code r h)
end Go.Proofs.Ytmhbkpgacdmjpaa
