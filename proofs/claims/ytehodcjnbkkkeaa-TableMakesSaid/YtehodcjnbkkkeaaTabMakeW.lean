/- Walk of TableMakes. -/
import Derived.Test.YtehodcjnbkkkeaaTabMake
import Derived.Test.YtehodcjnbkkkeaaSameTable
namespace Go.Proofs.Ytehodcjnbkkkeaa
open Go.RowKit

set_option maxHeartbeats 4000000 in
set_option maxRecDepth 100000 in
theorem walk_TableMakes (v0 : Value) (W : World) (o0 : Is_int W v0) :
    Calls Try.prog 5 #[v0] W fun e w' => e = .returned (.bool true) ∧ Below W.heap.size W w' := by
  obtain ⟨n, rfl, ha⟩ := o0
  clear ha
  rcases (show (n < 1 ∨ (1 ≤ n ∧ 40 < n)) ∨ (1 ≤ n ∧ n ≤ 40) by omega) with h | ⟨h1, h2⟩
  · have h' := Lib.hid h
    clear h
    go_enter Try.func5, Try.ntmps5
    go_wp2_with (first | (go_at_call 24; refine (prog_Make_bad _ _ h'.out).mono ?_; rintro e w1 ⟨rfl, hb1⟩; obtain ⟨hc1, hf1⟩ := bcell hb1; have hz1 := blt hb1; have hy1 := hb1.size; (try simp at hy1)) | (go_at_call 25; refine (ref_Tabled_bad _ _ h'.out).mono ?_; rintro e w1 ⟨rfl, hb1⟩; obtain ⟨hc1, hf1⟩ := bcell hb1; have hz1 := blt hb1; have hy1 := hb1.size; (try simp at hy1)) | (go_at_call 26; refine (sameTable_nil _ _ _ _ _).mono ?_; rintro e w1 ⟨rfl, hb1⟩; obtain ⟨hc1, hf1⟩ := bcell hb1; have hz1 := blt hb1; have hy1 := hb1.size; (try simp at hy1)))
    all_goals first | (go_ret; exact ⟨rfl, (by repeat (first | exact Below.refl _ _ | (refine Below.drew ?_) | (refine Below_drewN ?_) | (refine Below.alloc ?_ (by first | omega | (simp; done) | (simp; omega)) _) | (refine Below.setCell ?_ (by first | omega | (simp; done) | (simp; omega)) _) | (refine Below.trans ?_ (Below.mono (by assumption) (by first | omega | (simp; done) | (simp; omega))))))⟩) | (exfalso; first | omega | (simp at *; omega) | (simp at *; done))
  · obtain ⟨N, rfl⟩ := Int.eq_ofNat_of_zero_le (by omega : 0 ≤ n)
    have h3 : 1 ≤ N := by omega
    have h4 : N ≤ 40 := by omega
    have H3 := Lib.hid h3
    have H4 := Lib.hid h4
    clear h1 h2 h3 h4
    go_enter Try.func5, Try.ntmps5
    go_wp2_with fail
    refine (prog_Make_ok _ _ H3.out H4.out).mono ?_
    rintro e w1 ⟨v1, rfl, R1, hb1⟩
    obtain ⟨a1, k1, rfl, _⟩ := RowAt_shape R1
    obtain ⟨hc1, hf1⟩ := bcell hb1
    have hz1 := blt hb1
    have hy1 := hb1.size
    have R1' := Lib.hid R1
    clear R1
    go_wp2_with fail
    refine (ref_Tabled_ok _ _ H3.out H4.out).mono ?_
    rintro e w2 ⟨v2, rfl, R2, hb2⟩
    obtain ⟨a2, k2, rfl, _⟩ := RowAt_shape R2
    obtain ⟨hc2, hf2⟩ := bcell hb2
    have hz2 := blt hb2
    have hy2 := hb2.size
    simp at hy2
    have R2' := Lib.hid R2
    clear R2
    go_wp2_with fail
    have R1 := R1'.out
    have R2 := R2'.out
    refine (sameTable_yes _ _ (zeros N) _ (by repeat (first | assumption | (refine RowAt_alloc ?_ _) | (refine RowAt_drewN ?_ _) | (refine RowAt_below ?_ (Below.mono (by assumption) (by first | omega | (simp; done) | (simp; omega)))))) (by repeat (first | assumption | (refine RowAt_alloc ?_ _) | (refine RowAt_drewN ?_ _) | (refine RowAt_below ?_ (Below.mono (by assumption) (by first | omega | (simp; done) | (simp; omega))))))).mono ?_
    rintro e w3 ⟨rfl, hb3⟩
    have hy3 := hb3.size
    simp at hy3
    clear R1 R2 R1' R2'
    go_wp2
    all_goals first | (go_ret; exact ⟨rfl, (by repeat (first | exact Below.refl _ _ | (refine Below.drew ?_) | (refine Below_drewN ?_) | (refine Below.alloc ?_ (by first | omega | (simp; done) | (simp; omega)) _) | (refine Below.setCell ?_ (by first | omega | (simp; done) | (simp; omega)) _) | (refine Below.trans ?_ (Below.mono (by assumption) (by first | omega | (simp; done) | (simp; omega))))))⟩) | (exfalso; first | omega | (simp at *; omega) | (simp at *; done))
end Go.Proofs.Ytehodcjnbkkkeaa
