/- wheel's find. -/
import Derived.Test.YthgfiadfpgfjdaaWhOpen
import Derived.Test.YthgfiadfpgfjdaaIxcTm
namespace Go.Proofs.Ythgfiadfpgfjdaa
open Go.RowKit
def tmIs (id : Int) (t : Tm) : Bool := t.id == id
theorem whfind1 (x : Tm) (b : Nat) (id : Int) (w : World) (h : w.cell? ⟨b, 0, none⟩ = some (.int .i64 id)) : Calls Try.prog 30 #[Tm.agg x, .pointer (some ⟨b, 0, none⟩)] w fun e w' => e = .returned (.bool (tmIs id x)) ∧ Below w.heap.size w w' := by
  obtain ⟨t0, t1⟩ := x
  have lb := cell_lt h
  unfold Tm.agg
  go_enter Try.func30, Try.ntmps30
  go_wp2
  all_goals first | (go_ret; exact ⟨rfl, (by repeat (first | (with_reducible exact Below.refl _ _) | (with_reducible assumption) | (with_reducible refine Below.drew ?_) | (with_reducible refine Below_drewN ?_) | (with_reducible refine Below.alloc ?_ (by first | omega | (simp; done) | (simp; omega)) _) | (with_reducible refine Below.setCell ?_ (by first | omega | (simp; done) | (simp; omega)) _) | (with_reducible refine Below.trans ?_ (Below.mono (by assumption) (by first | omega | (simp; done) | (simp; omega))))))⟩) | (exfalso; first | omega | (simp at *; omega) | (simp at *; done))
def FiPost (w : World) (id : Int) (LL : List (List Tm)) (e : Ending) (w' : World) : Prop :=
  (e = .returned (.tuple #[.int .i64 (-1), .int .i64 (-1)]) ∧ (∀ m, m < LL.length → ∀ t ∈ LL.getD m [], ¬ t.id = id) ∧ Below w.heap.size w w') ∨
  (∃ a b : Nat, e = .returned (.tuple #[.int .i64 a, .int .i64 b]) ∧ a < LL.length ∧ b < (LL.getD a []).length ∧ ((LL.getD a []).getD b Tm.zero).id = id ∧ Below w.heap.size w w')
set_option maxHeartbeats 2000000 in
set_option maxRecDepth 100000 in
theorem prog_whfind (q : Nat) (now : Int) (vl : Value) (id : Int) (LL : List (List Tm)) (w : World) (hq : w.heap[q]? = some (.cells #[.int .i64 now, vl] 49 (0, 0))) (r : LsAt w vl LL) (hs : ∀ i, i < LL.length → (LL.getD i []).length ≤ 1048576) :
    Calls Try.prog 17 #[.pointer (some ⟨q, 0, none⟩), .int .i64 id] w (FiPost w id LL) := by
  obtain ⟨V0, hV0, r1, r2⟩ := r
  have R2 := Lib.hid r2
  have HS := Lib.hid hs
  obtain ⟨a, cp, rfl, l1, m1, _, p1⟩ := RowAt_fn (f := fun x : Value => [x]) undef r1
  rw [hV0] at l1 p1 hq
  have P1 := Lib.hid p1
  have HV0 := Lib.hid hV0
  have hq0 : w.cell? ⟨q, 1, none⟩ = some (.slice a LL.length cp) := blk_cell hq 1
  have lq := cell_lt hq0
  unfold maxLen at m1
  clear r1 r2 p1 hV0 hs hq
  go_enter Try.func17, Try.ntmps17
  go_wp2_with fail
  go_loopw [15] (fun i wr => ∃ k : Nat, k ≤ LL.length ∧ i = .int .i64 k ∧ (∀ m, m < k → ∀ t ∈ LL.getD m [], ¬ t.id = id) ∧ Below w.heap.size w wr ∧ wr.cell? ⟨w.heap.size, 0, none⟩ = some (.int .i64 id)) (fun i _ => LL.length - (intOf i).toNat)
  case atStart => exact ⟨0, Nat.zero_le _, rfl, by simp, (by repeat (first | (with_reducible exact Below.refl _ _) | (with_reducible assumption) | (with_reducible refine Below.drew ?_) | (with_reducible refine Below_drewN ?_) | (with_reducible refine Below.alloc ?_ (by first | omega | (simp; done) | (simp; omega)) _) | (with_reducible refine Below.setCell ?_ (by first | omega | (simp; done) | (simp; omega)) _) | (with_reducible refine Below.trans ?_ (Below.mono (by assumption) (by first | omega | (simp; done) | (simp; omega)))))), by go_simp⟩
  case round =>
    obtain ⟨k, hk, rfl, hno, hbel, c0⟩ := hrel
    have HN := Lib.hid hno
    have HB := Lib.hid hbel
    clear hno
    rcases (show k < LL.length ∨ k = LL.length by omega) with hlt | rfl
    · have hlt' : (k : Int) < (LL.length : Int) := by omega
      have p0 : (0 : Int) ≤ (k : Int) := by omega
      obtain ⟨b1, o1, rfl, hb1, q1⟩ := P1.out (by have := HV0.out; intro h; rw [h] at this; simp at this; omega)
      have a0 := cell_below HB.out (q1 k 0 hlt (by omega)) hb1
      have g1 := RowAt_below (R2.out k hlt) HB.out
      have hsk := HS.out k hlt
      simp only [Nat.mul_one, Nat.add_zero] at a0
      obtain ⟨xk, hxk⟩ : ∃ xk, xk = V0.getD k undef := ⟨_, rfl⟩
      obtain ⟨A, hA⟩ : ∃ A, A = LL.getD k [] := ⟨_, rfl⟩
      have HA := Lib.hid hA
      rw [← hxk] at a0 g1
      rw [← hA] at g1 hsk
      obtain ⟨ak, ck, rfl, _⟩ := RowAt_fn Tm.zero g1
      have G1 := Lib.hid g1
      clear hxk hA g1 q1 hbel
      rcases idxOf_cases (tmIs id) A Tm.zero with ⟨hi, hnn⟩ | ⟨j, hj, hi, hp, _⟩
      · have HI := Lib.hid hi
        have HNN := Lib.hid hnn
        clear hi hnn
        go_wp2_with (go_at_call 29; refine (ixcTm_any 30 ⟨w.heap.size, 0, none⟩ (fun _ _ => rfl) (tmIs id) _ A _ G1.out (by omega) (fun x _ w' hb' => whfind1 x _ id w' (cell_below' hb' c0))).mono ?_; rintro e w1 ⟨rfl, hb1⟩; rw [HI.out]; obtain ⟨hc1, hf1⟩ := bcell hb1)
        go_roundw
        case measure => simp [intOf]; omega
        case rel =>
          refine ⟨k + 1, by omega, by go_num, fun m hm t ht => ?_, HB.out.trans (hb1.mono HB.out.size), cell_below' hb1 c0⟩
          rcases (show m < k ∨ m = k by omega) with h | rfl
          · exact HN.out m h t ht
          · have := HNN.out t (by rw [HA.out]; exact ht)
            simpa [tmIs] using this
      · have HI := Lib.hid hi
        have HP := Lib.hid (show (A.getD j Tm.zero).id = id by simpa [tmIs] using hp)
        have pj : (0 : Int) ≤ (j : Int) := by omega
        clear hi hp
        go_wp2_with (go_at_call 29; refine (ixcTm_any 30 ⟨w.heap.size, 0, none⟩ (fun _ _ => rfl) (tmIs id) _ A _ G1.out (by omega) (fun x _ w' hb' => whfind1 x _ id w' (cell_below' hb' c0))).mono ?_; rintro e w1 ⟨rfl, hb1⟩; rw [HI.out]; obtain ⟨hc1, hf1⟩ := bcell hb1)
        all_goals (go_ret2; exact Or.inr ⟨k, j, rfl, hlt, by rw [← HA.out]; exact hj, by rw [← HA.out]; exact HP.out, HB.out.trans (hb1.mono HB.out.size)⟩)
    · have hge : ¬ ((LL.length : Nat) : Int) < (LL.length : Int) := by omega
      go_wp2_with fail
      all_goals (go_ret2; exact Or.inl ⟨rfl, HN.out, HB.out⟩)
end Go.Proofs.Ythgfiadfpgfjdaa
