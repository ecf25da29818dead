/- The walk of WheelAdvances. -/
import Derived.Test.YthgfiadfpgfjdaaWhAvR
import Derived.Test.YthgfiadfpgfjdaaSameInts
import Derived.Test.YthgfiadfpgfjdaaOpenWh
import Derived.Test.YthgfiadfpgfjdaaWhCp
import Derived.Test.YthgfiadfpgfjdaaWhMy
import Derived.Test.YthgfiadfpgfjdaaOwn
namespace Go.Proofs.Ythgfiadfpgfjdaa
open Go.RowKit
set_option maxHeartbeats 4000000 in
set_option maxRecDepth 100000 in
theorem WheelAdvances_w (now : Int) (LL : List (List Tm)) (now' : Int) (LL' : List (List Tm)) (off : List Int) (c : Int) (s : Value) (W : World) (r : LsAt W s LL) (hn : LL.length ≤ 1048576) (hs : LL.flatten.length ≤ 1048576)
    (h1 : ∀ (v : Value) (w : World), LsAt w v LL → Calls Try.prog 12 #[.agg #[.int .i64 now, v]] w (WhAns3 w now' LL' off c))
    (h2 : ∀ (v : Value) (w : World), LsAt w v LL → Calls Try.prog 13 #[.agg #[.int .i64 now, v]] w (WhAns3 w now' LL' off c)) :
    Calls Try.prog 5 #[.agg #[.int .i64 now, s]] W fun e w' => e = .returned (.bool true) ∧ Below W.heap.size W w' := by
  obtain ⟨a, cp, rfl⟩ := LsAt_shape r
  have H1 := Lib.hid h1
  have H2 := Lib.hid h2
  have R := Lib.hid r
  have HN := Lib.hid hn
  have HS := Lib.hid hs
  clear h1 h2 r hn hs
  go_enter Try.func5, Try.ntmps5
  go_wp2_with fail
  refine (wheels_copy _ now LL _ (LsAt_below R.out ((Below.refl W.heap.size W).alloc (by first | omega | (simp; done) | (simp; omega)) _)) HN.out HS.out).mono ?_
  rintro e w1 ⟨v1, rfl, R1, hb1⟩
  obtain ⟨a1, c1, rfl⟩ := LsAt_shape R1.at_
  have B1 := Lib.hid (((Below.refl W.heap.size W).alloc (by first | omega | (simp; done) | (simp; omega)) _).trans (hb1.mono (by first | omega | (simp; done) | (simp; omega))))
  have Rc := Lib.hid R1.at_
  obtain ⟨hc1, hf1⟩ := bcell hb1
  have hz1 := blt hb1
  have s1 := hb1.size
  simp at s1
  (try have kw1_0 : W.heap.size < w1.heap.size := by omega); (try have kw1_1 : W.heap.size + 1 < w1.heap.size := by omega); (try have kw1_2 : W.heap.size + 1 + 1 < w1.heap.size := by omega)
  have Rt := Lib.hid (LsAt_below R.out B1.out)
  clear R1 hb1
  go_wp2_with fail
  refine (H1.out _ _ (LsAt_below Rc.out ((Below.refl w1.heap.size w1).alloc (by first | omega | (simp; done) | (simp; omega)) _))).mono ?_
  rintro e w2 ⟨v2, u2, rfl, R2, U2, hb2⟩
  obtain ⟨p2, q2, rfl, _⟩ := RowAt_shape U2.1
  obtain ⟨a2, c2, rfl⟩ := LsAt_shape R2.at_
  have b2 : Below w1.heap.size w1 w2 := ((Below.refl w1.heap.size w1).alloc (by first | omega | (simp; done) | (simp; omega)) _).trans (hb2.mono (by first | omega | (simp; done) | (simp; omega)))
  have B2 := Lib.hid (B1.out.trans (b2.mono B1.out.size))
  have Ra := Lib.hid R2.at_
  have Ua := Lib.hid U2.1
  obtain ⟨hc2, hf2⟩ := bcell hb2
  have hz2 := blt hb2
  have s2 := hb2.size
  simp at s2
  (try have kw2_0 : W.heap.size < w2.heap.size := by omega); (try have kw2_1 : W.heap.size + 1 < w2.heap.size := by omega); (try have kw2_2 : W.heap.size + 1 + 1 < w2.heap.size := by omega)
  (try have m21 : w1.heap.size < w2.heap.size := by omega)
  have Rc2 := Lib.hid (LsAt_below Rc.out b2)
  have Rt2 := Lib.hid (LsAt_below R.out B2.out)
  clear R2 U2 hb2 Rc Rt B1 b2
  have n21 : w1.heap.size < w2.heap.size + 1 + 1 := by omega
  have n20 : W.heap.size < w2.heap.size + 1 + 1 := by omega
  go_wp2_with fail
  refine (H2.out _ _ (LsAt_below Rt2.out ((Below.refl w2.heap.size w2).alloc (by first | omega | (simp; done) | (simp; omega)) _))).mono ?_
  rintro e w3 ⟨v3, u3, rfl, R3, U3, hb3⟩
  obtain ⟨p3, q3, rfl, _⟩ := RowAt_shape U3.1
  obtain ⟨a3, c3, rfl⟩ := LsAt_shape R3.at_
  have b3 : Below w2.heap.size w2 w3 := ((Below.refl w2.heap.size w2).alloc (by first | omega | (simp; done) | (simp; omega)) _).trans (hb3.mono (by first | omega | (simp; done) | (simp; omega)))
  have B3 := Lib.hid (B2.out.trans (b3.mono B2.out.size))
  have Rb := Lib.hid R3.at_
  have Ub := Lib.hid U3.1
  obtain ⟨hc3, hf3⟩ := bcell hb3
  have hz3 := blt hb3
  have s3 := hb3.size
  simp at s3
  (try have kw3_0 : W.heap.size < w3.heap.size := by omega); (try have kw3_1 : W.heap.size + 1 < w3.heap.size := by omega); (try have kw3_2 : W.heap.size + 1 + 1 < w3.heap.size := by omega)
  (try have m31 : w1.heap.size < w3.heap.size := by omega)
  (try have m32 : w2.heap.size < w3.heap.size := by omega)
  (try have m33 : w2.heap.size + 1 < w3.heap.size := by omega)
  have Ra3 := Lib.hid (LsAt_below Ra.out b3)
  have Ua3 := Lib.hid (RowAt_below Ua.out b3)
  have Rc3 := Lib.hid (LsAt_below Rc2.out (b3.mono (by omega)))
  have Rt3 := Lib.hid (LsAt_below R.out B3.out)
  clear R3 U3 hb3 Rc2 Rt2 B2 Ra b3
  have n31 : w1.heap.size < w3.heap.size + 1 + 1 := by omega
  have n32 : w2.heap.size < w3.heap.size + 1 + 1 := by omega
  have n33 : w2.heap.size + 1 < w3.heap.size + 1 + 1 := by omega
  have n30 : W.heap.size < w3.heap.size + 1 + 1 := by omega
  go_wp2_with fail
  have b3a : Below w3.heap.size w3 (w3.alloc (.cells #[.int .i64 now', .slice a3 LL'.length c3] 24)) := (Below.refl _ _).alloc (Nat.le_refl _) _
  refine (sameInts_yes _ _ off _ (RowAt_below Ua3.out b3a) (RowAt_below Ub.out b3a)).mono ?_
  rintro e w4 ⟨rfl, hb4⟩
  have b4 : Below w3.heap.size w3 w4 := b3a.trans (hb4.mono (by first | omega | (simp; done) | (simp; omega)))
  have B4 := Lib.hid (B3.out.trans (b4.mono B3.out.size))
  obtain ⟨hc4, hf4⟩ := bcell hb4
  have hz4 := blt hb4
  have s4 := hb4.size
  simp at s4
  (try have kw4_0 : W.heap.size < w4.heap.size := by omega); (try have kw4_1 : W.heap.size + 1 < w4.heap.size := by omega); (try have kw4_2 : W.heap.size + 1 + 1 < w4.heap.size := by omega)
  (try have m41 : w1.heap.size < w4.heap.size := by omega)
  (try have m42 : w2.heap.size < w4.heap.size := by omega)
  (try have m43 : w3.heap.size < w4.heap.size := by omega)
  have Ra4 := Lib.hid (LsAt_below Ra3.out b4)
  have Rb4 := Lib.hid (LsAt_below Rb.out b4)
  have Rc4 := Lib.hid (LsAt_below Rc3.out b4)
  have Rt4 := Lib.hid (LsAt_below R.out B4.out)
  clear hb4 Ra3 Rb Rc3 Rt3 B3 b4 b3a Ua3 Ub
  go_wp2_with fail
  refine (sameWhN _ _ now' LL' LL' _ Ra4.out Rb4.out true (Or.inl ⟨rfl, rfl⟩)).mono ?_
  rintro e w5 ⟨rfl, hb5⟩
  have B5 := Lib.hid (B4.out.trans (hb5.mono B4.out.size))
  obtain ⟨hc5, hf5⟩ := bcell hb5
  have s5 := hb5.size
  (try have kw5_0 : W.heap.size < w5.heap.size := by omega); (try have kw5_1 : W.heap.size + 1 < w5.heap.size := by omega); (try have kw5_2 : W.heap.size + 1 + 1 < w5.heap.size := by omega)
  (try have m51 : w1.heap.size < w5.heap.size := by omega)
  (try have m52 : w2.heap.size < w5.heap.size := by omega)
  (try have m53 : w3.heap.size < w5.heap.size := by omega)
  have Rc5 := Lib.hid (LsAt_below Rc4.out hb5)
  have Rt5 := Lib.hid (LsAt_below R.out B5.out)
  clear hb5 Ra4 Rb4 Rc4 Rt4 B4
  go_wp2_with fail
  refine (sameWhN _ _ now LL LL _ Rc5.out Rt5.out true (Or.inl ⟨rfl, rfl⟩)).mono ?_
  rintro e w6 ⟨rfl, hb6⟩
  have B6 := Lib.hid (B5.out.trans (hb6.mono B5.out.size))
  clear hb6
  go_wp2
  all_goals first | (go_ret; exact ⟨rfl, B6.out⟩) | (exfalso; first | omega | (simp at *; omega) | (simp at *; done))
theorem AdvAns_total (now : Int) (LL : List (List Tm)) : ∃ now' LL' off c, AdvAns now LL now' LL' off c := by
  by_cases hm : WhMay now LL
  · by_cases he : now = 1099511627776
    · exact ⟨_, _, _, _, Or.inr (Or.inl ⟨hm, he, rfl, rfl, rfl, rfl⟩)⟩
    · exact ⟨_, _, _, _, Or.inr (Or.inr ⟨hm, by have := hm.2.1; omega, rfl, rfl, rfl, rfl⟩)⟩
  · exact ⟨_, _, _, _, Or.inl ⟨hm, rfl, rfl, rfl, rfl⟩⟩
theorem walk_WheelAdvances (v0 : Value) (W : World) (o0 : Is_Wheel W v0) :
    Calls Try.prog 5 #[v0] W fun e w' => e = .returned (.bool true) ∧ Below W.heap.size W w' := by
  obtain ⟨now, s, LL, rfl, _, r, hn, hs, _⟩ := o0
  obtain ⟨now', LL', off, c, ha⟩ := AdvAns_total now LL
  exact WheelAdvances_w now LL now' LL' off c s W r hn hs (fun v w r => prog_Advance v now LL w r hn hs now' LL' off c ha) (fun v w r => ref_Advanced v now LL w r hs now' LL' off c ha)
end Go.Proofs.Ythgfiadfpgfjdaa
