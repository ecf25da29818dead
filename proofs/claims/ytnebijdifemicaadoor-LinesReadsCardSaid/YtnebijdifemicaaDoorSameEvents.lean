/- The contract of sameEvents on one list. -/
import Derived.Test.YtnebijdifemicaaDoorTypes
import Derived.Deep.QuietTactic
import Derived.BigQuiet
namespace Go.Proofs.YtnebijdifemicaaDoor
open Go.RowKit

set_option maxHeartbeats 2000000 in
theorem sameEvents_row (b1 o1 c1 b2 o2 c2 n : Nat) (L : Nat → Ev) (w : World) (hn : n ≤ 9223372036854775807) (h1 : ∀ i j, i < n → j < 8 → w.cell? ⟨b1, o1 + i * 8 + j, none⟩ = (Ev.cells (L i))[j]?) (h2 : ∀ i j, i < n → j < 8 → w.cell? ⟨b2, o2 + i * 8 + j, none⟩ = (Ev.cells (L i))[j]?) :
    Calls Tryd.prog 8 #[.slice (some ⟨b1, o1, none⟩) n c1, .slice (some ⟨b2, o2, none⟩) n c2] w fun e w' => e = .returned (.bool true) ∧ Below w.heap.size w w' := by
  have H1 := Lib.hid h1
  have H2 := Lib.hid h2
  clear h1 h2
  go_enter Tryd.func8, Tryd.ntmps8
  go_wp2
  go_loopw [5] (fun i wr => ∃ k : Nat, k ≤ n ∧ i = .int .i64 k ∧ Below w.heap.size w wr ∧ (∀ b o v, w.cell? ⟨b, o, none⟩ = some v → wr.cell? ⟨b, o, none⟩ = some v)) (fun i _ => n - (intOf i).toNat)
  case atStart => exact ⟨0, Nat.zero_le _, rfl, Below.refl _ _, fun _ _ _ h => h⟩
  case round =>
    obtain ⟨k, hk, rfl, hbel, hold⟩ := hrel
    rcases (show k < n ∨ n = k by omega) with hlt | rfl
    · have hlt' : (k : Int) < (n : Int) := by omega
      have a0 := hold _ _ _ (H1.out k 0 hlt (by omega))
      have a1 := hold _ _ _ (H1.out k 1 hlt (by omega))
      have a2 := hold _ _ _ (H1.out k 2 hlt (by omega))
      have a3 := hold _ _ _ (H1.out k 3 hlt (by omega))
      have a4 := hold _ _ _ (H1.out k 4 hlt (by omega))
      have a5 := hold _ _ _ (H1.out k 5 hlt (by omega))
      have a6 := hold _ _ _ (H1.out k 6 hlt (by omega))
      have a7 := hold _ _ _ (H1.out k 7 hlt (by omega))
      have d0 := hold _ _ _ (H2.out k 0 hlt (by omega))
      have d1 := hold _ _ _ (H2.out k 1 hlt (by omega))
      have d2 := hold _ _ _ (H2.out k 2 hlt (by omega))
      have d3 := hold _ _ _ (H2.out k 3 hlt (by omega))
      have d4 := hold _ _ _ (H2.out k 4 hlt (by omega))
      have d5 := hold _ _ _ (H2.out k 5 hlt (by omega))
      have d6 := hold _ _ _ (H2.out k 6 hlt (by omega))
      have d7 := hold _ _ _ (H2.out k 7 hlt (by omega))
      simp only [Nat.add_zero] at a0 d0
      have HO := Lib.hid hold
      clear hold
      go_wp2_with fail
      go_quiet (fail)
      go_wp2
      go_roundw
      case rel => exact ⟨k + 1, by omega, by go_num, Below_drewN hbel, fun b o v h => HO.out b o v h⟩
      case measure => simp [intOf]; omega
    · go_wp2
      all_goals first | (go_ret; exact ⟨rfl, hbel⟩) | (exfalso; first | omega | (simp at *; omega) | (simp at *; done))

set_option maxHeartbeats 1000000 in
theorem sameEvents_nil (a1 a2 : Option Addr) (c1 c2 : Nat) (w : World) :
    Calls Tryd.prog 8 #[.slice a1 0 c1, .slice a2 0 c2] w fun e w' => e = .returned (.bool true) ∧ Below w.heap.size w w' := by
  go_enter Tryd.func8, Tryd.ntmps8
  go_wp2
  refine wp_loop_rounds 1 ?_
  rw [rounds_succ]
  go_wp2
  all_goals first | (go_ret; exact ⟨rfl, (by repeat (first | (with_reducible exact Below.refl _ _) | (with_reducible assumption) | (with_reducible refine Below.drew ?_) | (with_reducible refine Below_drewN ?_) | (with_reducible refine Below.alloc ?_ (by first | omega | (simp; done) | (simp; omega)) _) | (with_reducible refine Below.setCell ?_ (by first | omega | (simp; done) | (simp; omega)) _) | (with_reducible refine Below.trans ?_ (Below.mono (by assumption) (by first | omega | (simp; done) | (simp; omega))))))⟩) | (exfalso; first | omega | (simp at *; omega) | (simp at *; done))

theorem sameEvents_yes (v1 v2 : Value) (X : List Ev) (w : World) (r1 : RowAt w 8 v1 (X.map fun x => Ev.cells (x))) (r2 : RowAt w 8 v2 (X.map fun x => Ev.cells (x))) :
    Calls Tryd.prog 8 #[v1, v2] w fun e w' => e = .returned (.bool true) ∧ Below w.heap.size w w' := by
  obtain ⟨a1, c1, rfl, l1, m1, n1, p1⟩ := RowAt_fn Ev.zero r1
  obtain ⟨a2, c2, rfl, l2, m2, n2, p2⟩ := RowAt_fn Ev.zero r2
  by_cases hX : X = []
  · subst hX
    exact sameEvents_nil a1 a2 c1 c2 w
  · obtain ⟨b1, o1, rfl, _, q1⟩ := p1 hX
    obtain ⟨b2, o2, rfl, _, q2⟩ := p2 hX
    unfold maxLen at m1
    exact sameEvents_row b1 o1 c1 b2 o2 c2 X.length _ w (by omega) q1 q2
end Go.Proofs.YtnebijdifemicaaDoor
