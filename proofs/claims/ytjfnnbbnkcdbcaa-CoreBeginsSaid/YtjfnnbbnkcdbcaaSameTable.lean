/- usherlaw.sameTable on one list of slots. -/
import Derived.Test.YtjfnnbbnkcdbcaaOpen
import Derived.Deep.QuietTactic
import Derived.BigQuiet
namespace Go.Proofs.Ytjfnnbbnkcdbcaa
open Go.RowKit

set_option maxHeartbeats 2000000 in
set_option maxRecDepth 100000 in
theorem sameTable_row (b1 o1 c1 b2 o2 c2 n : Nat) (L : Nat → Sl) (w : World) (hn : n ≤ 9223372036854775807) (h1 : ∀ i j, i < n → j < 4 → w.cell? ⟨b1, o1 + i * 4 + j, none⟩ = (L i).cells[j]?) (h2 : ∀ i j, i < n → j < 4 → w.cell? ⟨b2, o2 + i * 4 + j, none⟩ = (L i).cells[j]?) :
    Calls Try.prog 50 #[.agg #[.slice (some ⟨b1, o1, none⟩) n c1], .agg #[.slice (some ⟨b2, o2, none⟩) n c2]] w fun e w' => e = .returned (.bool true) ∧ Below w.heap.size w w' := by
  have H1 := Lib.hid h1
  have H2 := Lib.hid h2
  clear h1 h2
  go_enter Try.func50, Try.ntmps50
  go_wp2
  go_loopw [5] (fun i wr => ∃ k : Nat, k ≤ n ∧ i = .int .i64 k ∧ Below w.heap.size w wr ∧ wr.cell? ⟨w.heap.size, 0, none⟩ = some (.slice (some ⟨b1, o1, none⟩) n c1) ∧ wr.cell? ⟨w.heap.size + 1, 0, none⟩ = some (.slice (some ⟨b2, o2, none⟩) n c2) ∧ (∀ b o v, w.cell? ⟨b, o, none⟩ = some v → wr.cell? ⟨b, o, none⟩ = some v)) (fun i _ => n - (intOf i).toNat)
  case atStart => exact ⟨0, Nat.zero_le _, rfl, ((Below.refl _ _).alloc (Nat.le_refl _) _).alloc (by simp) _, by go_simp, by go_simp, fun _ _ _ h => cell_alloc _ (cell_alloc _ h)⟩
  case round =>
    obtain ⟨k, hk, rfl, hbel, s1, s2, hold⟩ := hrel
    rcases (show k < n ∨ n = k by omega) with hlt | rfl
    · have hlt' : (k : Int) < (n : Int) := by omega
      have a0 := hold _ _ _ (H1.out k 0 hlt (by omega))
      have a1 := hold _ _ _ (H1.out k 1 hlt (by omega))
      have a2 := hold _ _ _ (H1.out k 2 hlt (by omega))
      have a3 := hold _ _ _ (H1.out k 3 hlt (by omega))
      have d0 := hold _ _ _ (H2.out k 0 hlt (by omega))
      have d1 := hold _ _ _ (H2.out k 1 hlt (by omega))
      have d2 := hold _ _ _ (H2.out k 2 hlt (by omega))
      have d3 := hold _ _ _ (H2.out k 3 hlt (by omega))
      simp only [Nat.add_zero] at a0 d0
      have HO := Lib.hid hold
      clear hold
      go_wp2_with fail
      go_quiet (fail)
      go_wp2
      go_roundw
      case rel => exact ⟨k + 1, by omega, by go_num, Below_drewN hbel, s1, s2, fun b o v h => HO.out b o v h⟩
      case measure => simp [intOf]; omega
    · go_wp2
      all_goals first | (go_ret; exact ⟨rfl, hbel⟩) | (exfalso; first | omega | (simp at *; omega) | (simp at *; done))

set_option maxHeartbeats 1000000 in
set_option maxRecDepth 100000 in
theorem sameTable_nil (a1 a2 : Option Addr) (c1 c2 : Nat) (w : World) :
    Calls Try.prog 50 #[.agg #[.slice a1 0 c1], .agg #[.slice a2 0 c2]] w fun e w' => e = .returned (.bool true) ∧ Below w.heap.size w w' := by
  go_enter Try.func50, Try.ntmps50
  go_wp2
  refine wp_loop_rounds 1 ?_
  rw [rounds_succ]
  go_wp2
  all_goals first | (go_ret; exact ⟨rfl, (by repeat (first | (with_reducible exact Below.refl _ _) | (with_reducible assumption) | (with_reducible refine Below.drew ?_) | (with_reducible refine Below_drewN ?_) | (with_reducible refine Below.alloc ?_ (by first | omega | (simp; done) | (simp; omega)) _) | (with_reducible refine Below.setCell ?_ (by first | omega | (simp; done) | (simp; omega)) _) | (with_reducible refine Below.trans ?_ (Below.mono (by assumption) (by first | omega | (simp; done) | (simp; omega))))))⟩) | (exfalso; first | omega | (simp at *; omega) | (simp at *; done))

theorem sameTable_yes (v1 v2 : Value) (X : List Sl) (w : World) (r1 : RowAt w 4 v1 (X.map Sl.cells)) (r2 : RowAt w 4 v2 (X.map Sl.cells)) :
    Calls Try.prog 50 #[.agg #[v1], .agg #[v2]] w fun e w' => e = .returned (.bool true) ∧ Below w.heap.size w w' := by
  obtain ⟨a1, c1, rfl, l1, m1, n1, p1⟩ := RowAt_fn Sl.zero r1
  obtain ⟨a2, c2, rfl, l2, m2, n2, p2⟩ := RowAt_fn Sl.zero r2
  by_cases hX : X = []
  · subst hX
    exact sameTable_nil a1 a2 c1 c2 w
  · obtain ⟨b1, o1, rfl, _, q1⟩ := p1 hX
    obtain ⟨b2, o2, rfl, _, q2⟩ := p2 hX
    unfold maxLen at m1
    exact sameTable_row b1 o1 c1 b2 o2 c2 X.length _ w (by omega) q1 q2
end Go.Proofs.Ytjfnnbbnkcdbcaa
