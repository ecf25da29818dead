/- usherref.tallyFault: its contract. -/
import Derived.Test.YtjnfnmbkmgjdlaaTallyOf
namespace Go.Proofs.Ytjnfnmbkmgjdlaa
open Go.RowKit

set_option maxHeartbeats 2000000 in
set_option maxRecDepth 100000 in
theorem tallyFault_row (b0 o0 c0 : Nat) (X : List Out) (w : World) (hn : X.length * 56 ≤ 140737488351232) (h1 : ∀ i j, i < X.length → j < 7 → w.cell? ⟨b0, o0 + i * 7 + j, none⟩ = (X.getD i Out.zero).cells[j]?) (r : Int) (hr : ((∀ x ∈ X, Fits x) ∧ r = 0) ∨ ((∃ x ∈ X, ¬ Fits x) ∧ r = 5)) :
    Calls Try.prog 26 #[.slice (some ⟨b0, o0, none⟩) X.length c0] w fun e w' => e = .returned (.int .i64 r) ∧ w = w' := by
  have H1 := Lib.hid h1
  have HR := Lib.hid hr
  clear h1 hr
  go_enter Try.func26, Try.ntmps26
  go_wp2
  go_loop [3] (fun i => ∃ k : Nat, k ≤ X.length ∧ i = .int .i64 k ∧ ∀ x ∈ X.take k, Fits x) (fun i => X.length - (intOf i).toNat)
  case atStart => exact ⟨0, Nat.zero_le _, rfl, fun x hx => by simp at hx⟩
  case round =>
    obtain ⟨k, hk, rfl, hall⟩ := hrel
    have HA := Lib.hid hall
    clear hall
    rcases (show k < X.length ∨ X.length = k by omega) with hlt | heq
    · have hlt' : (k : Int) < (X.length : Int) := by omega
      obtain ⟨o, ho⟩ : ∃ o, o = X.getD k Out.zero := ⟨_, rfl⟩
      have hmem : o ∈ X := by rw [ho]; simp only [List.getD, List.getElem?_eq_getElem hlt, Option.getD_some]; exact List.getElem_mem _
      have a0 : w.cell? ⟨b0, o0 + k * 7, none⟩ = some (.int .i64 o.kind) := by rw [ho]; exact H1.out k 0 hlt (by omega)
      have a6 : w.cell? ⟨b0, o0 + k * 7 + 6, none⟩ = some (.int .i64 o.why) := by rw [ho]; exact H1.out k 6 hlt (by omega)
      have hts : X.take (k + 1) = X.take k ++ [o] := by rw [ho]; exact take_snoc X _ k hlt
      have HT := Lib.hid hts
      have HM := Lib.hid hmem
      clear ho hts hmem
      by_cases hfo : Fits o
      · have HFo := Lib.hid hfo
        obtain ⟨f1, f2, f3, f4⟩ := hfo
        go_wp2_with (go_at_call 28; first | (refine (In_yes _ _ _ _ (by omega) (by omega)).mono ?_; rintro e w' ⟨rfl, rfl⟩) | (refine (In_no _ _ _ _ (by omega)).mono ?_; rintro e w' ⟨rfl, rfl⟩))
        go_round
        case rel => exact ⟨k + 1, by omega, by go_num, by rw [HT.out]; intro x hx; rcases List.mem_append.1 hx with h | h; exact HA.out x h; simp at h; rw [h]; exact HFo.out⟩
        case measure => simp [intOf]; omega
      · have hr5 : r = 5 := by
          rcases HR.out with ⟨h, _⟩ | ⟨_, h⟩
          · exact absurd (h o HM.out) hfo
          · exact h
        have HR5 := Lib.hid hr5
        have hnf := not_Fits hfo
        clear hr5 hfo
        rcases hnf with f1 | ⟨f1, f2⟩ | ⟨f1, f2, f3⟩ | ⟨f1, f2, f3, f4⟩
        all_goals
          go_wp2_with (go_at_call 28; first | (refine (In_yes _ _ _ _ (by omega) (by omega)).mono ?_; rintro e w' ⟨rfl, rfl⟩) | (refine (In_no _ _ _ _ (by omega)).mono ?_; rintro e w' ⟨rfl, rfl⟩))
          all_goals first | (go_ret; exact ⟨rI HR5.out.symm, rfl⟩) | (exfalso; first | omega | (simp at *; omega) | (simp at *; done))
    · have hge : ¬ (k : Int) < (X.length : Int) := by omega
      have hr0 : r = 0 := by
        rcases HR.out with ⟨_, h⟩ | ⟨⟨x, hx, hnx⟩, _⟩
        · exact h
        · exact absurd (HA.out x (by rw [List.take_of_length_le (by omega)]; exact hx)) hnx
      have HR0 := Lib.hid hr0
      clear hr0
      go_wp2
      all_goals first | (go_ret; exact ⟨rI HR0.out.symm, rfl⟩) | (exfalso; first | omega | (simp at *; omega) | (simp at *; done))

set_option maxHeartbeats 1000000 in
theorem tallyFault_nil (a : Option Addr) (c : Nat) (w : World) : Calls Try.prog 26 #[.slice a 0 c] w fun e w' => e = .returned (.int .i64 0) ∧ w = w' := by
  go_enter Try.func26, Try.ntmps26
  go_wp2
  refine wp_loop_rounds 1 ?_
  rw [rounds_succ]
  go_wp2
  all_goals first | (go_ret; exact ⟨rfl, rfl⟩) | (exfalso; first | omega | (simp at *; omega) | (simp at *; done))

theorem tallyFault_ok (v : Value) (X : List Out) (w : World) (r : RowAt w 7 v (X.map Out.cells)) (hn : X.length * 56 ≤ 140737488351232) (hf : ∀ x ∈ X, Fits x) :
    Calls Try.prog 26 #[v] w fun e w' => e = .returned (.int .i64 0) ∧ w = w' := by
  obtain ⟨a, c, rfl, l, m, n, p⟩ := RowAt_fn Out.zero r
  by_cases hX : X = []
  · subst hX; exact tallyFault_nil a c w
  · obtain ⟨b, o, rfl, hb, q⟩ := p hX
    exact tallyFault_row b o c X w hn q 0 (Or.inl ⟨hf, rfl⟩)
theorem tallyFault_bad (v : Value) (X : List Out) (w : World) (r : RowAt w 7 v (X.map Out.cells)) (hn : X.length * 56 ≤ 140737488351232) (hf : ∃ x ∈ X, ¬ Fits x) :
    Calls Try.prog 26 #[v] w fun e w' => e = .returned (.int .i64 5) ∧ w = w' := by
  obtain ⟨a, c, rfl, l, m, n, p⟩ := RowAt_fn Out.zero r
  by_cases hX : X = []
  · subst hX; obtain ⟨x, hx, _⟩ := hf; cases hx
  · obtain ⟨b, o, rfl, hb, q⟩ := p hX
    exact tallyFault_row b o c X w hn q 5 (Or.inr ⟨hf, rfl⟩)
end Go.Proofs.Ytjnfnmbkmgjdlaa
