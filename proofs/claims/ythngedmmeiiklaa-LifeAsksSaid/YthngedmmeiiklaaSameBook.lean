/- usherlaw.sameBook on one book. -/
import Derived.Test.YthngedmmeiiklaaBook
import Derived.Deep.QuietTactic
import Derived.BigQuiet
namespace Go.Proofs.Ythngedmmeiiklaa
open Go.RowKit

/-- What holds at the heads of sameBook's loops. -/
def SbRel (w wr : World) (x1 y1 x2 y2 : Value) : Prop := Below w.heap.size w wr ∧ w.heap.size + 1 < wr.heap.size ∧ wr.cell? ⟨w.heap.size, 0, none⟩ = some x1 ∧ wr.cell? ⟨w.heap.size, 1, none⟩ = some y1 ∧ wr.cell? ⟨w.heap.size + 1, 0, none⟩ = some x2 ∧ wr.cell? ⟨w.heap.size + 1, 1, none⟩ = some y2

set_option maxHeartbeats 4000000 in
set_option maxRecDepth 100000 in
theorem sameBook_yes (x1 y1 x2 y2 : Value) (L : List Lf) (R : List Rq) (w : World) (r1 : RowAt w 6 x1 (L.map Lf.cells)) (t1 : RowAt w 5 y1 (R.map Rq.cells)) (r2 : RowAt w 6 x2 (L.map Lf.cells)) (t2 : RowAt w 5 y2 (R.map Rq.cells)) :
    Calls Try.prog 13 #[.agg #[x1, y1], .agg #[x2, y2]] w fun e w' => e = .returned (.bool true) ∧ Below w.heap.size w w' := by
  obtain ⟨a1, c1, rfl, l1, m1, _, p1⟩ := RowAt_fn Lf.zero r1
  obtain ⟨a2, c2, rfl, l2, m2, _, p2⟩ := RowAt_fn Lf.zero r2
  obtain ⟨a3, c3, rfl, l3, m3, _, p3⟩ := RowAt_fn Rq.zero t1
  obtain ⟨a4, c4, rfl, l4, m4, _, p4⟩ := RowAt_fn Rq.zero t2
  unfold maxLen at m1 m3
  have P1 := Lib.hid p1
  have P2 := Lib.hid p2
  have P3 := Lib.hid p3
  have P4 := Lib.hid p4
  have hn1 : L.length ≤ 9223372036854775807 := by omega
  have hn2 : R.length ≤ 9223372036854775807 := by omega
  clear r1 r2 t1 t2 p1 p2 p3 p4 l1 l2 l3 l4 m1 m2 m3 m4
  go_enter Try.func13, Try.ntmps13
  go_wp2
  go_loopw [5] (fun i wr => ∃ k : Nat, k ≤ L.length ∧ i = .int .i64 k ∧ SbRel w wr (.slice a1 L.length c1) (.slice a3 R.length c3) (.slice a2 L.length c2) (.slice a4 R.length c4)) (fun i _ => L.length - (intOf i).toNat)
  case atStart => exact ⟨0, Nat.zero_le _, rfl, ((Below.refl _ _).alloc (Nat.le_refl _) _).alloc (by simp) _, by simp, by go_simp, by go_simp, by go_simp, by go_simp⟩
  case round =>
    obtain ⟨k, hk, rfl, hb, hsz, s1, s2, s3, s4⟩ := hrel
    have HB := Lib.hid hb
    rcases (show k < L.length ∨ L.length = k by omega) with hlt | heq
    · have hlt' : (k : Int) < (L.length : Int) := by omega
      have p0 : (0 : Int) ≤ (k : Int) := by omega
      have hX : L ≠ [] := by intro h; rw [h] at hlt; simp at hlt
      obtain ⟨b1, o1, rfl, hb1, q1⟩ := P1.out hX
      obtain ⟨b2, o2, rfl, hb2, q2⟩ := P2.out hX
      have h1 : ∀ j, j < 6 → wr.cell? ⟨b1, o1 + k * 6 + j, none⟩ = (L.getD k Lf.zero).cells[j]? := fun j hj => by rw [hb.cell (p := ⟨b1, o1 + k * 6 + j, none⟩) hb1]; exact q1 k j hlt hj
      have h2 : ∀ j, j < 6 → wr.cell? ⟨b2, o2 + k * 6 + j, none⟩ = (L.getD k Lf.zero).cells[j]? := fun j hj => by rw [hb.cell (p := ⟨b2, o2 + k * 6 + j, none⟩) hb2]; exact q2 k j hlt hj
      generalize L.getD k Lf.zero = s at h1 h2
      have a0 := h1 0 (by omega)
      have d0 := h2 0 (by omega)
      have a1 := h1 1 (by omega)
      have d1 := h2 1 (by omega)
      have a2 := h1 2 (by omega)
      have d2 := h2 2 (by omega)
      have a3 := h1 3 (by omega)
      have d3 := h2 3 (by omega)
      have a4 := h1 4 (by omega)
      have d4 := h2 4 (by omega)
      have a5 := h1 5 (by omega)
      have d5 := h2 5 (by omega)
      clear h1 h2 q1 q2 hb
      simp only [Lf.cells, List.getElem?_cons_zero, List.getElem?_cons_succ, Nat.add_zero] at a0 a1 a2 a3 a4 a5 d0 d1 d2 d3 d4 d5
      go_wp2_with fail
      go_quiet (fail)
      go_wp2
      go_roundw
      case rel => exact ⟨k + 1, by omega, by go_num, Below_drewN HB.out, hsz, s1, s2, s3, s4⟩
      case measure => simp [intOf]; omega
    · have hge : ¬ (k : Int) < (L.length : Int) := by omega
      clear hb
      go_wp2_with fail
      go_loopw [6] (fun i wr => ∃ k : Nat, k ≤ R.length ∧ i = .int .i64 k ∧ SbRel w wr (.slice a1 L.length c1) (.slice a3 R.length c3) (.slice a2 L.length c2) (.slice a4 R.length c4)) (fun i _ => R.length - (intOf i).toNat)
      case atStart => exact ⟨0, Nat.zero_le _, rfl, HB.out, hsz, s1, s2, s3, s4⟩
      case round =>
        obtain ⟨k, hk, rfl, hb, hsz, s1, s2, s3, s4⟩ := hrel
        have HB2 := Lib.hid hb
        rcases (show k < R.length ∨ R.length = k by omega) with hlt | heq2
        · have hlt' : (k : Int) < (R.length : Int) := by omega
          have p0 : (0 : Int) ≤ (k : Int) := by omega
          have hX : R ≠ [] := by intro h; rw [h] at hlt; simp at hlt
          obtain ⟨b1, o1, rfl, hb1, q1⟩ := P3.out hX
          obtain ⟨b2, o2, rfl, hb2, q2⟩ := P4.out hX
          have h1 : ∀ j, j < 5 → wr.cell? ⟨b1, o1 + k * 5 + j, none⟩ = (R.getD k Rq.zero).cells[j]? := fun j hj => by rw [hb.cell (p := ⟨b1, o1 + k * 5 + j, none⟩) hb1]; exact q1 k j hlt hj
          have h2 : ∀ j, j < 5 → wr.cell? ⟨b2, o2 + k * 5 + j, none⟩ = (R.getD k Rq.zero).cells[j]? := fun j hj => by rw [hb.cell (p := ⟨b2, o2 + k * 5 + j, none⟩) hb2]; exact q2 k j hlt hj
          generalize R.getD k Rq.zero = s at h1 h2
          have a0 := h1 0 (by omega)
          have d0 := h2 0 (by omega)
          have a1 := h1 1 (by omega)
          have d1 := h2 1 (by omega)
          have a2 := h1 2 (by omega)
          have d2 := h2 2 (by omega)
          have a3 := h1 3 (by omega)
          have d3 := h2 3 (by omega)
          have a4 := h1 4 (by omega)
          have d4 := h2 4 (by omega)
          clear h1 h2 q1 q2 hb
          simp only [Rq.cells, List.getElem?_cons_zero, List.getElem?_cons_succ, Nat.add_zero] at a0 a1 a2 a3 a4 d0 d1 d2 d3 d4
          go_wp2_with fail
          go_quiet (fail)
          go_wp2
          go_roundw
          case rel => exact ⟨k + 1, by omega, by go_num, Below_drewN HB2.out, hsz, s1, s2, s3, s4⟩
          case measure => simp [intOf]; omega
        · have hge2 : ¬ (k : Int) < (R.length : Int) := by omega
          clear hb
          go_wp2
          all_goals first | (go_ret; exact ⟨rfl, HB2.out⟩) | (exfalso; first | omega | (simp at *; omega) | (simp at *; done))
end Go.Proofs.Ythngedmmeiiklaa
