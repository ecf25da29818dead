/- The contract of sameInts on one list. -/
import Derived.Test.YthgfiadfpgfjdaaTypes
import Derived.Deep.QuietTactic
import Derived.BigQuiet
namespace Go.Proofs.Ythgfiadfpgfjdaa
open Go.RowKit

set_option maxHeartbeats 2000000 in
theorem sameInts_row (b1 o1 c1 b2 o2 c2 n : Nat) (L : Nat → Int) (w : World) (hn : n ≤ 9223372036854775807) (h1 : ∀ i j, i < n → j < 1 → w.cell? ⟨b1, o1 + i * 1 + j, none⟩ = ([Value.int .i64 (L i)])[j]?) (h2 : ∀ i j, i < n → j < 1 → w.cell? ⟨b2, o2 + i * 1 + j, none⟩ = ([Value.int .i64 (L i)])[j]?) :
    Calls Try.prog 14 #[.slice (some ⟨b1, o1, none⟩) n c1, .slice (some ⟨b2, o2, none⟩) n c2] w fun e w' => e = .returned (.bool true) ∧ Below w.heap.size w w' := by
  have H1 := Lib.hid h1
  have H2 := Lib.hid h2
  clear h1 h2
  go_enter Try.func14, Try.ntmps14
  go_wp2
  go_loopw [5] (fun i wr => ∃ k : Nat, k ≤ n ∧ i = .int .i64 k ∧ Below w.heap.size w wr ∧ (∀ b o v, w.cell? ⟨b, o, none⟩ = some v → wr.cell? ⟨b, o, none⟩ = some v)) (fun i _ => n - (intOf i).toNat)
  case atStart => exact ⟨0, Nat.zero_le _, rfl, Below.refl _ _, fun _ _ _ h => h⟩
  case round =>
    obtain ⟨k, hk, rfl, hbel, hold⟩ := hrel
    rcases (show k < n ∨ n = k by omega) with hlt | rfl
    · have hlt' : (k : Int) < (n : Int) := by omega
      have a0 := hold _ _ _ (H1.out k 0 hlt (by omega))
      have d0 := hold _ _ _ (H2.out k 0 hlt (by omega))
      simp only [Nat.add_zero, Nat.mul_one] at a0 d0
      have HO := Lib.hid hold
      clear hold
      go_wp2_with fail
      go_quiet (fail)
      go_wp2
      go_roundw
      case rel => exact ⟨k + 1, by omega, by go_num, Below_drewN hbel, fun b o v h => HO.out b o v h⟩
      case measure => simp [intOf]; omega
    · go_wp2
      all_goals first | (go_ret; exact ⟨rfl, hbel⟩) | (exfalso; first | omega | (simp at *; omega) | (simp at *; done))

set_option maxHeartbeats 1000000 in
theorem sameInts_nil (a1 a2 : Option Addr) (c1 c2 : Nat) (w : World) :
    Calls Try.prog 14 #[.slice a1 0 c1, .slice a2 0 c2] w fun e w' => e = .returned (.bool true) ∧ Below w.heap.size w w' := by
  go_enter Try.func14, Try.ntmps14
  go_wp2
  refine wp_loop_rounds 1 ?_
  rw [rounds_succ]
  go_wp2
  all_goals first | (go_ret; exact ⟨rfl, (by repeat (first | (with_reducible exact Below.refl _ _) | (with_reducible assumption) | (with_reducible refine Below.drew ?_) | (with_reducible refine Below_drewN ?_) | (with_reducible refine Below.alloc ?_ (by first | omega | (simp; done) | (simp; omega)) _) | (with_reducible refine Below.setCell ?_ (by first | omega | (simp; done) | (simp; omega)) _) | (with_reducible refine Below.trans ?_ (Below.mono (by assumption) (by first | omega | (simp; done) | (simp; omega))))))⟩) | (exfalso; first | omega | (simp at *; omega) | (simp at *; done))

theorem sameInts_yes (v1 v2 : Value) (X : List Int) (w : World) (r1 : RowAt w 1 v1 (X.map fun x => [Value.int .i64 (x)])) (r2 : RowAt w 1 v2 (X.map fun x => [Value.int .i64 (x)])) :
    Calls Try.prog 14 #[v1, v2] w fun e w' => e = .returned (.bool true) ∧ Below w.heap.size w w' := by
  obtain ⟨a1, c1, rfl, l1, m1, n1, p1⟩ := RowAt_fn (default : Int) r1
  obtain ⟨a2, c2, rfl, l2, m2, n2, p2⟩ := RowAt_fn (default : Int) r2
  by_cases hX : X = []
  · subst hX
    exact sameInts_nil a1 a2 c1 c2 w
  · obtain ⟨b1, o1, rfl, _, q1⟩ := p1 hX
    obtain ⟨b2, o2, rfl, _, q2⟩ := p2 hX
    unfold maxLen at m1
    exact sameInts_row b1 o1 c1 b2 o2 c2 X.length _ w (by omega) q1 q2
end Go.Proofs.Ythgfiadfpgfjdaa
