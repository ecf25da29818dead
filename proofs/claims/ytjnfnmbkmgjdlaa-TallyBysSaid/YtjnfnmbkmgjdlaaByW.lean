/- The walk of TallyBys. -/
import Derived.Test.YtjnfnmbkmgjdlaaByR
import Derived.Test.YtjnfnmbkmgjdlaaCopyoutputs
import Derived.Test.YtjnfnmbkmgjdlaaSameInts
namespace Go.Proofs.Ytjnfnmbkmgjdlaa
open Go.RowKit

theorem fits_orB (X : List Out) : (∀ x ∈ X, Fits x) ∨ (∃ x ∈ X, ¬ Fits x) := by
  by_cases h : ∀ x ∈ X, Fits x
  · exact Or.inl h
  · refine Or.inr (Classical.byContradiction fun hn => h fun x hx => Classical.byContradiction fun hf => hn ⟨x, hx, hf⟩)
theorem ByAns_total (X : List Out) : ∃ ans code, ByAns X ans code := by
  by_cases h : ∀ x ∈ X, InB x
  · exact ⟨_, _, Or.inr ⟨h, rfl, rfl⟩⟩
  · refine ⟨_, _, Or.inl ⟨?_, rfl, rfl⟩⟩
    exact Classical.byContradiction fun hn => h fun x hx => Classical.byContradiction fun hf => hn ⟨x, hx, hf⟩
set_option maxHeartbeats 4000000 in
set_option maxRecDepth 100000 in
theorem By_walk (X : List Out) (ans : List Int) (code : Int) (v0 : Value) (W : World) (r : RowAt W 7 v0 (X.map Out.cells)) (hn : X.length * 56 ≤ 140737488351232)
    (h1 : ∀ v w, RowAt w 7 v (X.map Out.cells) → Calls Try.prog 12 #[v] w (ByPost w ans code)) (h2 : ∀ v w, RowAt w 7 v (X.map Out.cells) → Calls Try.prog 13 #[v] w (ByPost w ans code)) :
    Calls Try.prog 4 #[v0] W fun e w' => e = .returned (.bool true) ∧ Below W.heap.size W w' := by
  have H1 := Lib.hid h1
  have H2 := Lib.hid h2
  have HO : Hid (∀ w v, RowAt w 7 v (X.map Out.cells) → Calls Try.prog 9 #[v] w (CopyPost w 7 (X.map Out.cells))) := fun w v r => outputs_copy v X w r hn
  obtain ⟨av, cv, rfl, _⟩ := RowAt_shape r
  have RV := Lib.hid r
  clear h1 h2 hn r
  go_enter Try.func4, Try.ntmps4
  go_wp2_with fail
  refine (HO.out _ _ RV.out).mono ?_
  rintro e w1 ⟨v1, rfl, R1, hb1⟩
  obtain ⟨a1, c1, rfl, _⟩ := RowAt_shape R1
  have RV1 := Lib.hid (RowAt_below RV.out hb1)
  have RC1 := Lib.hid R1
  have B1 := Lib.hid hb1
  clear R1 hb1
  go_wp2_with fail
  refine (H1.out _ _ RC1.out).mono ?_
  rintro e w2 ⟨v2, rfl, R2, hb2⟩
  obtain ⟨a2, c2, rfl, _⟩ := RowAt_shape R2
  have RV2 := Lib.hid (RowAt_below RV1.out hb2)
  have RA2 := Lib.hid R2
  have B2 := Lib.hid (B1.out.trans (hb2.mono B1.out.size))
  clear R2 hb2
  go_wp2_with fail
  refine (H2.out _ _ RV2.out).mono ?_
  rintro e w3 ⟨v3, rfl, R3, hb3⟩
  obtain ⟨a3, c3, rfl, _⟩ := RowAt_shape R3
  have RA3 := Lib.hid (RowAt_below RA2.out hb3)
  have RB3 := Lib.hid R3
  have B3 := Lib.hid (B2.out.trans (hb3.mono B2.out.size))
  clear R3 hb3
  go_wp2_with (go_at_call 14; refine (sameInts_yes _ _ ans _ RA3.out RB3.out).mono ?_; rintro e w4 ⟨rfl, hb4⟩; have B4 := B3.out.trans (hb4.mono B3.out.size))
  all_goals first | (go_ret; exact ⟨rfl, B4⟩) | (exfalso; first | omega | (simp at *; omega) | (simp at *; done))

theorem walk_TallyBys (v0 : Value) (W : World) (o0 : Is_sl_Output W v0) :
    Calls Try.prog 4 #[v0] W fun e w' => e = .returned (.bool true) ∧ Below W.heap.size W w' := by
  obtain ⟨X, r, hok, hn⟩ := o0
  rcases fits_orB X with hf | hf
  · obtain ⟨ans, code, hA⟩ := ByAns_total X
    exact By_walk X ans code v0 W r hn (fun v w r => prog_By_fits v X ans code w r hn hok hf hA) (fun v w r => ref_By_fits v X ans code w r hn hf hA)
  · exact By_walk X [] 5 v0 W r hn (fun v w r => prog_By_bad v X w r hn hf) (fun v w r => ref_By_bad v X w r hn hf)
end Go.Proofs.Ytjnfnmbkmgjdlaa
