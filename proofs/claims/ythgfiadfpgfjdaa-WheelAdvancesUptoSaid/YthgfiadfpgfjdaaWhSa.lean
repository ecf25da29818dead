/- usherref.SameTimers, timerAhead. -/
import Derived.Test.YthgfiadfpgfjdaaWhMem
import Derived.Deep.QuietTactic
import Derived.BigQuiet
namespace Go.Proofs.Ythgfiadfpgfjdaa
open Go.RowKit
theorem tq_step {X Y : List Tm} {k : Nat} (hx : k < X.length) (hy : k < Y.length) (h : X.take k = Y.take k) (he : X.getD k Tm.zero = Y.getD k Tm.zero) : X.take (k + 1) = Y.take (k + 1) := by
  have e1 : X.getD k Tm.zero = X[k] := by simp [List.getD, hx]
  have e2 : Y.getD k Tm.zero = Y[k] := by simp [List.getD, hy]
  rw [List.take_succ_eq_append_getElem hx, List.take_succ_eq_append_getElem hy, h, ← e1, ← e2, he]
theorem tq_not {X Y : List Tm} {k : Nat} (he : X.getD k Tm.zero ≠ Y.getD k Tm.zero) : X ≠ Y := fun h => he (by rw [h])
theorem tq_all {X Y : List Tm} {k : Nat} (hx : X.length = k) (hy : Y.length = k) (h : X.take k = Y.take k) : X = Y := by
  rwa [List.take_of_length_le (by omega), List.take_of_length_le (by omega)] at h
theorem tq_len {X Y : List Tm} (h : X.length ≠ Y.length) : X ≠ Y := fun e => h (by rw [e])

set_option maxHeartbeats 4000000 in
set_option maxRecDepth 100000 in
theorem sameTm (v1 v2 : Value) (X Y : List Tm) (w : World) (r1 : RowAt w 2 v1 (X.map Tm.cells)) (r2 : RowAt w 2 v2 (Y.map Tm.cells)) (r : Bool) (hr : (X = Y ∧ r = true) ∨ (X ≠ Y ∧ r = false)) :
    Calls Try.prog 23 #[v1, v2] w fun e w' => e = .returned (.bool r) ∧ Below w.heap.size w w' := by
  obtain ⟨a1, c1, rfl, l1, m1, n1, p1⟩ := RowAt_fn Tm.zero r1
  obtain ⟨a2, c2, rfl, l2, m2, n2, p2⟩ := RowAt_fn Tm.zero r2
  have P1 := Lib.hid p1
  have P2 := Lib.hid p2
  have HR := Lib.hid hr
  unfold maxLen at m1
  clear r1 r2 p1 p2 hr n1 n2
  by_cases hl : X.length = Y.length
  rotate_left
  · have hr : r = false := by rcases HR.out with ⟨h, _⟩ | ⟨_, h⟩; exact absurd (by rw [h]) hl; exact h
    subst hr
    have e1 : ((X.length : Int) != (Y.length : Int)) = true := by rw [bne_iff_ne]; omega
    have e2 : ¬ (X.length : Int) = (Y.length : Int) := by omega
    clear HR P1 P2
    go_enter Try.func23, Try.ntmps23
    go_wp2
    all_goals first | (go_ret; exact ⟨rfl, (by repeat (first | (with_reducible exact Below.refl _ _) | (with_reducible assumption) | (with_reducible refine Below.drew ?_) | (with_reducible refine Below_drewN ?_) | (with_reducible refine Below.alloc ?_ (by first | omega | (simp; done) | (simp; omega)) _) | (with_reducible refine Below.setCell ?_ (by first | omega | (simp; done) | (simp; omega)) _) | (with_reducible refine Below.trans ?_ (Below.mono (by assumption) (by first | omega | (simp; done) | (simp; omega))))))⟩) | (exfalso; first | omega | (simp at *; omega) | (simp at *; done))
  · go_enter Try.func23, Try.ntmps23
    have e1 : ((X.length : Int) != (Y.length : Int)) = false := by rw [bne_eq_false_iff_eq]; omega
    have e2 : (X.length : Int) = (Y.length : Int) := by omega
    have HL := Lib.hid hl
    clear hl
    go_wp2
    clear e1 e2
    go_loopw [5] (fun i wr => ∃ k : Nat, k ≤ X.length ∧ i = .int .i64 k ∧ X.take k = Y.take k ∧ Below w.heap.size w wr) (fun i _ => X.length - (intOf i).toNat)
    case atStart => exact ⟨0, Nat.zero_le _, rfl, rfl, Below.refl _ _⟩
    case round =>
      obtain ⟨k, hk, rfl, hT, hbel⟩ := hrel
      rcases (show k < X.length ∨ X.length = k by omega) with hlt | heq
      · have hlt' : (k : Int) < (X.length : Int) := by omega
        have hlY : k < Y.length := by have := HL.out; omega
        have hlY' : (k : Int) < (Y.length : Int) := by omega
        have p0 : (0 : Int) ≤ (k : Int) := by omega
        obtain ⟨b1, o1, rfl, hb1, q1⟩ := P1.out (by intro h; rw [h] at hlt; simp at hlt)
        obtain ⟨b2, o2, rfl, hb2, q2⟩ := P2.out (by intro h; rw [h] at hlY; simp at hlY)
        have a0 := q1 k 0 hlt (by omega)
        have a1 := q1 k 1 hlt (by omega)
        have d0 := q2 k 0 hlY (by omega)
        have d1 := q2 k 1 hlY (by omega)
        obtain ⟨x, hx⟩ : ∃ x, x = X.getD k Tm.zero := ⟨_, rfl⟩
        obtain ⟨y, hy⟩ : ∃ y, y = Y.getD k Tm.zero := ⟨_, rfl⟩
        rw [← hx] at a0 a1
        rw [← hy] at d0 d1
        have HX := Lib.hid hx
        have HY := Lib.hid hy
        have HT := Lib.hid hT
        obtain ⟨x0, x1⟩ := x
        obtain ⟨y0, y1⟩ := y
        simp only [Tm.cells, List.getElem?_cons_zero, List.getElem?_cons_succ, Nat.add_zero] at a0 a1 d0 d1
        have a0 := cell_below hbel a0 hb1
        have a1 := cell_below hbel a1 hb1
        have d0 := cell_below hbel d0 hb2
        have d1 := cell_below hbel d1 hb2
        clear hx hy hT q1 q2
        by_cases he : x0 = y0 ∧ x1 = y1
        · obtain ⟨rfl, rfl⟩ := he
          have HN := Lib.hid (tq_step hlt hlY HT.out (by rw [← HX.out, ← HY.out]))
          go_wp2_with fail
          go_quiet (fail)
          go_wp2
          go_roundw
          case rel => exact ⟨k + 1, by omega, by go_num, HN.out, Below_drewN hbel⟩
          case measure => simp [intOf]; omega
        · have hr : r = false := by
            rcases HR.out with ⟨h, _⟩ | ⟨_, h⟩
            · exact absurd h (tq_not (k := k) (by rw [← HX.out, ← HY.out]; simpa using he))
            · exact h
          subst hr
          have hc : (x0 ≠ y0) ∨ (x0 = y0 ∧ x1 ≠ y1) := by omega
          clear he
          rcases hc with he | ⟨rfl, he⟩
          all_goals
            go_wp2_with fail
            go_quiet (fail)
            go_wp2
            all_goals first | (go_ret; exact ⟨rfl, Below_drewN hbel⟩) | (exfalso; first | omega | (simp at *; omega) | (simp at *; done))
      · have hge : ¬ (k : Int) < (X.length : Int) := by omega
        have hgY : ¬ (k : Int) < (Y.length : Int) := by have := HL.out; omega
        have hr : r = true := by
          rcases HR.out with ⟨_, h⟩ | ⟨h, _⟩
          · exact h
          · exact absurd (tq_all heq (by have := HL.out; omega) hT) h
        subst hr
        clear heq
        go_wp2
        all_goals first | (go_ret; exact ⟨rfl, hbel⟩) | (exfalso; first | omega | (simp at *; omega) | (simp at *; done))
theorem ref_ahead (a b : Tm) (w : World) : Calls Try.prog 35 #[.agg #[.int .i64 a.at_, .int .i64 a.id], .agg #[.int .i64 b.at_, .int .i64 b.id]] w fun e w' => e = .returned (.bool (tmA a b)) ∧ Below w.heap.size w w' := by
  obtain ⟨x, y⟩ := a
  obtain ⟨z, u⟩ := b
  obtain ⟨r, hr⟩ : ∃ r, r = tmA ⟨x, y⟩ ⟨z, u⟩ := ⟨_, rfl⟩
  rw [← hr]
  simp only [tmA] at hr
  rcases (show x < z ∨ (¬ x < z ∧ x = z ∧ y < u) ∨ (¬ x < z ∧ x = z ∧ ¬ y < u) ∨ (¬ x < z ∧ ¬ x = z) by omega) with h | ⟨h, rfl, h2⟩ | ⟨h, rfl, h2⟩ | ⟨h, h2⟩
  · have : r = true := by rw [hr]; simp [h]
    subst this; clear hr
    go_enter Try.func35, Try.ntmps35
    go_wp2
    all_goals first | (go_ret; exact ⟨rfl, (by repeat (first | (with_reducible exact Below.refl _ _) | (with_reducible assumption) | (with_reducible refine Below.drew ?_) | (with_reducible refine Below_drewN ?_) | (with_reducible refine Below.alloc ?_ (by first | omega | (simp; done) | (simp; omega)) _) | (with_reducible refine Below.setCell ?_ (by first | omega | (simp; done) | (simp; omega)) _) | (with_reducible refine Below.trans ?_ (Below.mono (by assumption) (by first | omega | (simp; done) | (simp; omega))))))⟩) | (exfalso; first | omega | (simp at *; omega) | (simp at *; done))
  · have : r = true := by rw [hr]; simp [h2]
    subst this; clear hr
    go_enter Try.func35, Try.ntmps35
    go_wp2
    all_goals first | (go_ret; exact ⟨rfl, (by repeat (first | (with_reducible exact Below.refl _ _) | (with_reducible assumption) | (with_reducible refine Below.drew ?_) | (with_reducible refine Below_drewN ?_) | (with_reducible refine Below.alloc ?_ (by first | omega | (simp; done) | (simp; omega)) _) | (with_reducible refine Below.setCell ?_ (by first | omega | (simp; done) | (simp; omega)) _) | (with_reducible refine Below.trans ?_ (Below.mono (by assumption) (by first | omega | (simp; done) | (simp; omega))))))⟩) | (exfalso; first | omega | (simp at *; omega) | (simp at *; done))
  · have : r = false := by rw [hr]; simp; omega
    subst this; clear hr
    have h3 : decide (y < u) = false := by simp; omega
    go_enter Try.func35, Try.ntmps35
    go_wp2
    all_goals first | (go_ret; exact ⟨rfl, (by repeat (first | (with_reducible exact Below.refl _ _) | (with_reducible assumption) | (with_reducible refine Below.drew ?_) | (with_reducible refine Below_drewN ?_) | (with_reducible refine Below.alloc ?_ (by first | omega | (simp; done) | (simp; omega)) _) | (with_reducible refine Below.setCell ?_ (by first | omega | (simp; done) | (simp; omega)) _) | (with_reducible refine Below.trans ?_ (Below.mono (by assumption) (by first | omega | (simp; done) | (simp; omega))))))⟩) | (exfalso; first | omega | (simp at *; omega) | (simp at *; done))
  · have : r = false := by rw [hr]; simp [h2]; omega
    subst this; clear hr
    have h3 : (x == z) = false := by simpa using h2
    go_enter Try.func35, Try.ntmps35
    go_wp2
    all_goals first | (go_ret; exact ⟨rfl, (by repeat (first | (with_reducible exact Below.refl _ _) | (with_reducible assumption) | (with_reducible refine Below.drew ?_) | (with_reducible refine Below_drewN ?_) | (with_reducible refine Below.alloc ?_ (by first | omega | (simp; done) | (simp; omega)) _) | (with_reducible refine Below.setCell ?_ (by first | omega | (simp; done) | (simp; omega)) _) | (with_reducible refine Below.trans ?_ (Below.mono (by assumption) (by first | omega | (simp; done) | (simp; omega))))))⟩) | (exfalso; first | omega | (simp at *; omega) | (simp at *; done))
theorem ref_aheadR (a b : Tm) (w : World) (r : Bool) (h : r = tmA a b) : Calls Try.prog 35 #[.agg #[.int .i64 a.at_, .int .i64 a.id], .agg #[.int .i64 b.at_, .int .i64 b.id]] w fun e w' => e = .returned (.bool r) ∧ Below w.heap.size w w' := by
  rw [h]; exact ref_ahead a b w
end Go.Proofs.Ythgfiadfpgfjdaa
