/- usherref.TimersOf. -/
import Derived.Test.YthgfiadfpgfjdaaWhSw
import Derived.Test.YthgfiadfpgfjdaaWhOpen
namespace Go.Proofs.Ythgfiadfpgfjdaa
open Go.RowKit
theorem tm_one (t : Tm) : ∀ u ∈ Tm.cells t, u.oneCell' = true := by intro u hu; simp [Tm.cells] at hu; rcases hu with rfl | rfl <;> rfl
theorem flat_le {LL : List (List Tm)} {k j : Nat} (hk : k < LL.length) (hj : j ≤ (LL.getD k []).length) : (LL.take k).flatten.length + j ≤ LL.flatten.length := by
  have h : LL.flatten = (LL.take k).flatten ++ (LL.getD k [] ++ (LL.drop (k + 1)).flatten) := by
    rw [← List.append_assoc, ← take_flat hk, ← List.flatten_append, List.take_append_drop]
  rw [h, List.length_append, List.length_append]; omega
/-- What TimersOf has by then. -/
def ToRel (w wr : World) (l lv : Value) (X : List Tm) : Prop := Below w.heap.size w wr ∧ w.heap.size < wr.heap.size ∧ wr.cell? ⟨w.heap.size, 1, none⟩ = some lv ∧ wr.ownsRow (w.heap.size + 1) 43 2 l X.length (X.map Tm.cells).flatten
def ToPost (w : World) (X : List Tm) (e : Ending) (w' : World) : Prop := ∃ v, e = .returned v ∧ w'.ownsRow w.heap.size 43 2 v X.length (X.map Tm.cells).flatten ∧ Below w.heap.size w w'
set_option maxHeartbeats 4000000 in
set_option maxRecDepth 100000 in
theorem ref_TimersOf (lv : Value) (now : Int) (LL : List (List Tm)) (w : World) (r : LsAt w lv LL) (hs : LL.flatten.length ≤ 1048576) : Calls Try.prog 21 #[.agg #[.int .i64 now, lv]] w (ToPost w LL.flatten) := by
  obtain ⟨i0, hi, hi0, hi1, hi2⟩ := info_parts infoc_Tm
  obtain ⟨V, hV, r1, s1⟩ := r
  obtain ⟨a1, c1, rfl, l1, m1, _, p1⟩ := RowAt_fn (f := fun x : Value => [x]) undef r1
  rw [hV] at l1 p1 ⊢
  have P1 := Lib.hid p1
  have S1 := Lib.hid s1
  have HV := Lib.hid hV
  unfold maxLen at m1
  clear r1 p1 s1 hV
  go_enter Try.func21, Try.ntmps21
  go_wp2
  go_loopw [3, 4] (fun l i wr => ∃ k : Nat, k ≤ LL.length ∧ i = .int .i64 k ∧ ToRel w wr l (.slice a1 LL.length c1) (LL.take k).flatten) (fun _ i _ => LL.length - (intOf i).toNat)
  case atStart => exact ⟨0, Nat.zero_le _, rfl, (by repeat (first | (with_reducible exact Below.refl _ _) | (with_reducible assumption) | (with_reducible refine Below.drew ?_) | (with_reducible refine Below_drewN ?_) | (with_reducible refine Below.alloc ?_ (by first | omega | (simp; done) | (simp; omega)) _) | (with_reducible refine Below.setCell ?_ (by first | omega | (simp; done) | (simp; omega)) _) | (with_reducible refine Below.trans ?_ (Below.mono (by assumption) (by first | omega | (simp; done) | (simp; omega)))))), by simp, by go_simp, by simpa using World.ownsRow_nil _ _ _ _⟩
  case round =>
    obtain ⟨k, hk, rfl, hbel, hz, t1, hown⟩ := hrel
    have HB := Lib.hid hbel
    have HO := Lib.hid hown
    clear hown
    rcases (show k < LL.length ∨ k = LL.length by omega) with hlt | rfl
    · have hlt' : (k : Int) < (LL.length : Int) := by omega
      have p0 : (0 : Int) ≤ (k : Int) := by omega
      obtain ⟨b1, o1, rfl, hb1, q1⟩ := P1.out (by have := HV.out; intro h; rw [h] at this; simp at this; omega)
      have a0 := q1 k 0 hlt (by omega)
      have g1 := S1.out k hlt
      simp only [Nat.mul_one, Nat.add_zero] at a0
      obtain ⟨x, hx⟩ : ∃ x, x = V.getD k undef := ⟨_, rfl⟩
      rw [← hx] at a0 g1
      obtain ⟨A, hA⟩ : ∃ A, A = LL.getD k [] := ⟨_, rfl⟩
      have hfl := take_flat hlt
      have hle : ∀ j, j ≤ A.length → (LL.take k).flatten.length + j ≤ LL.flatten.length := by rw [hA]; exact fun j hj => flat_le hlt hj
      rw [← hA] at g1 hfl
      have HF := Lib.hid hfl
      have HLE := Lib.hid hle
      obtain ⟨a2, c2, rfl, l2, m2, _, p2⟩ := RowAt_fn Tm.zero g1
      have P2 := Lib.hid p2
      unfold maxLen at m2
      have A0 := Lib.hid a0
      obtain ⟨T, hT⟩ : ∃ T, T = (LL.take k).flatten := ⟨_, rfl⟩
      rw [← hT] at HF HLE HO
      clear q1 g1 hx hA hfl hle p2 a0 hT
      go_wp2_with fail
      go_loopw [3, 5] (fun l i wr2 => ∃ j : Nat, j ≤ A.length ∧ i = .int .i64 j ∧ ToRel w wr2 l (.slice (some ⟨b1, o1, none⟩) LL.length c1) (T ++ A.take j)) (fun _ i _ => A.length - (intOf i).toNat)
      case atStart => exact ⟨0, Nat.zero_le _, rfl, HB.out, hz, t1, by simpa using HO.out⟩
      case round =>
        clear HB HO hz t1 hbel
        obtain ⟨j, hj, rfl, hbel, hz, t1, hown⟩ := hrel
        obtain ⟨av, cv, rfl, _⟩ := owns_shape hown
        have HB := Lib.hid hbel
        have HO := Lib.hid hown
        have a0 := cell_below hbel A0.out hb1
        clear hown
        rcases (show j < A.length ∨ j = A.length by omega) with hjl | rfl
        · have hjl' : (j : Int) < (A.length : Int) := by omega
          have p2 : (0 : Int) ≤ (j : Int) := by omega
          obtain ⟨b2, o2, rfl, hb2, q2⟩ := P2.out (by intro h; rw [h] at hjl; simp at hjl)
          have d0 := q2 j 0 hjl (by omega)
          have d1 := q2 j 1 hjl (by omega)
          obtain ⟨t, ht⟩ : ∃ t, t = A.getD j Tm.zero := ⟨_, rfl⟩
          rw [← ht] at d0 d1
          have HTk := Lib.hid (tm_take ht hjl)
          have hln := HLE.out (j + 1) (by omega)
          obtain ⟨t0, t1'⟩ := t
          simp only [Tm.cells, List.getElem?_cons_zero, List.getElem?_cons_succ, Nat.add_zero] at d0 d1
          have d0 := cell_below hbel d0 hb2
          have d1 := cell_below hbel d1 hb2
          have hTl : (T ++ A.take j).length = T.length + j := by simp; omega
          rw [hTl] at HO ⊢
          clear ht q2 hTl
          go_wp2_with (at_builtin; go_loud (refine wpList_append_own _ rfl _ _ 38 rfl (w.heap.size + 1) 43 i0 (.agg #[.int .i64 0, .int .i64 0]) 2 16 Try.underlying38 hi hi0 hi1 hi2 rfl (by decide) _ _ _ rfl (HO.out.alloc _) ⟨wr.heap.size, 0, none⟩ 1 1 (Tm.cells ⟨t0, t1'⟩) rfl rfl (news_lit rfl _ 43) ?c1 ?c2 ?c3 ?c4 ?_))
          case c1 => exact tm_one _
          case c2 => unfold maxLen; omega
          case c3 => omega
          case c4 => simp; omega
          intro v' w6 hown' hgrow _
          have hb6 := grown_below (B := w.heap.size + 1) ((Below.refl wr.heap.size wr).alloc (Nat.le_refl _) _) (by omega) HO.out hgrow
          have t6 := cell_below hb6 t1 (by omega)
          have hz6 := hb6.size
          have HB6 := Lib.hid (HB.out.trans (hb6.mono (by omega)))
          have HO6 : Hid (w6.ownsRow (w.heap.size + 1) 43 2 v' (T ++ A.take (j + 1)).length ((T ++ A.take (j + 1)).map Tm.cells).flatten) := by
            show w6.ownsRow (w.heap.size + 1) 43 2 v' (T ++ A.take (j + 1)).length ((T ++ A.take (j + 1)).map Tm.cells).flatten
            rw [HTk.out, ← List.append_assoc, List.map_append, List.flatten_append, List.length_append, List.length_append, List.length_singleton, List.length_take, Nat.min_eq_left hj]
            simpa using hown'
          clear hown' hgrow hb6 HO HB t1
          go_wp2_with fail
          go_roundw
          case rel => exact ⟨j + 1, by omega, by go_num, HB6.out, by omega, t6, HO6.out⟩
          case measure => simp [intOf]; omega
        · have hge : ¬ ((A.length : Nat) : Int) < (A.length : Int) := by omega
          go_wp2_with fail
          go_roundw
          case rel => exact ⟨k + 1, by omega, by go_num, HB.out, hz, t1, by rw [HF.out]; simpa using HO.out⟩
          case measure => simp [intOf]; omega
    · have hge : ¬ ((LL.length : Nat) : Int) < (LL.length : Int) := by omega
      go_wp2
      go_ret
      refine ⟨_, rfl, own_base' (by simpa using HO.out) (by omega), HB.out⟩
end Go.Proofs.Ythgfiadfpgfjdaa
