/- cmp.Compare and cmp.Or at int. -/
import Derived.Test.YthgfiadfpgfjdaaOwn
import Derived.Deep.RegionHeld3
import Derived.Deep.QuietTactic
import Derived.Shelf.SlSortCmp.NoneTotal
namespace Go.Proofs.Ythgfiadfpgfjdaa
open Go.RowKit Go.Shelf Go.Sort
def cmpI (x y : Int) : Int := if x < y then -1 else if y < x then 1 else 0
def orI (x y : Int) : Int := if x = 0 then y else x
set_option maxHeartbeats 2000000 in
theorem cmpC (x y : Int) (w : World) : Calls Try.prog 37 #[.int .i64 x, .int .i64 y] w fun e w' => e = .returned (.int .i64 (cmpI x y)) ∧ w' = w := by
  obtain ⟨r, hr⟩ : ∃ r, r = cmpI x y := ⟨_, rfl⟩
  rw [← hr]
  unfold cmpI at hr
  rcases (show x < y ∨ (¬ x < y ∧ y < x) ∨ (¬ x < y ∧ ¬ y < x) by omega) with h | ⟨h, h2⟩ | ⟨h, h2⟩
  · rw [if_pos h] at hr
    subst hr
    go_enter Try.func37, Try.ntmps37
    go_wp2
    all_goals first | (go_ret; exact ⟨rfl, rfl⟩) | (exfalso; first | omega | (simp at *; omega) | (simp at *; done))
  · rw [if_neg h, if_pos h2] at hr
    subst hr
    go_enter Try.func37, Try.ntmps37
    go_wp2
    all_goals first | (go_ret; exact ⟨rfl, rfl⟩) | (exfalso; first | omega | (simp at *; omega) | (simp at *; done))
  · rw [if_neg h, if_neg h2] at hr
    subst hr
    go_enter Try.func37, Try.ntmps37
    go_wp2
    all_goals first | (go_ret; exact ⟨rfl, rfl⟩) | (exfalso; first | omega | (simp at *; omega) | (simp at *; done))
set_option maxHeartbeats 2000000 in
theorem cmpOr (B : Nat) (x y : Int) (w : World) (h0 : w.cell? ⟨B, 0, none⟩ = some (.int .i64 x)) (h1 : w.cell? ⟨B, 1, none⟩ = some (.int .i64 y)) :
    Calls Try.prog 36 #[.slice (some ⟨B, 0, none⟩) 2 2] w fun e w' => e = .returned (.int .i64 (orI x y)) ∧ w' = w := by
  unfold orI
  by_cases hx : x = 0
  · subst hx
    rw [if_pos rfl]
    by_cases hy : y = 0
    · subst hy
      go_enter Try.func36, Try.ntmps36
      go_wp2
      refine wp_loop_rounds 3 ?_
      rw [rounds_succ]
      go_wp2
      rw [rounds_succ]
      go_wp2
      rw [rounds_succ]
      go_wp2
      all_goals first | (go_ret; exact ⟨rfl, rfl⟩) | (exfalso; first | omega | (simp at *; omega) | (simp at *; done))
    · go_enter Try.func36, Try.ntmps36
      go_wp2
      refine wp_loop_rounds 2 ?_
      rw [rounds_succ]
      go_wp2
      rw [rounds_succ]
      go_wp2
      all_goals first | (go_ret; exact ⟨rfl, rfl⟩) | (exfalso; first | omega | (simp at *; omega) | (simp at *; done))
  · rw [if_neg hx]
    go_enter Try.func36, Try.ntmps36
    go_wp2
    refine wp_loop_rounds 1 ?_
    rw [rounds_succ]
    go_wp2
    all_goals first | (go_ret; exact ⟨rfl, rfl⟩) | (exfalso; first | omega | (simp at *; omega) | (simp at *; done))
theorem below_grown {B : Nat} {w w' : World} (h : ∃ q os', w' = Go.Sort.grow (w.drewN q) os') (hB : B ≤ w.heap.size) : Below B w w' := by
  obtain ⟨q, os, rfl⟩ := h
  refine ⟨(below_drewN (Below.refl B w) q).os, (below_drewN (Below.refl B w) q).tape, (below_drewN (Below.refl B w) q).output, ?_, fun j hj => ?_⟩
  · unfold Go.Sort.grow
    have := (below_drewN (Below.refl B w) q).size
    simp; try omega
  · unfold Go.Sort.grow
    have h1 := (below_drewN (Below.refl B w) q).size
    have h2 := (below_drewN (Below.refl B w) q).block j hj
    simp only
    rw [Array.getElem?_append_left (by omega)]
    exact h2
end Go.Proofs.Ythgfiadfpgfjdaa
