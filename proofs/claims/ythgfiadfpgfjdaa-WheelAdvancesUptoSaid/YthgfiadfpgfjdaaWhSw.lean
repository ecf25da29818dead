/- usherref.SameWheel. -/
import Derived.Test.YthgfiadfpgfjdaaWhSa
import Derived.Deep.RegionHeld3
namespace Go.Proofs.Ythgfiadfpgfjdaa
open Go.RowKit
theorem gq_step {α : Type} {X Y : List α} {d : α} {k : Nat} (hx : k < X.length) (hy : k < Y.length) (h : X.take k = Y.take k) (he : X.getD k d = Y.getD k d) : X.take (k + 1) = Y.take (k + 1) := by
  have e1 : X.getD k d = X[k] := by simp [List.getD, hx]
  have e2 : Y.getD k d = Y[k] := by simp [List.getD, hy]
  rw [List.take_succ_eq_append_getElem hx, List.take_succ_eq_append_getElem hy, h, ← e1, ← e2, he]
theorem gq_all {α : Type} {X Y : List α} {k : Nat} (hx : X.length = k) (hy : Y.length = k) (h : X.take k = Y.take k) : X = Y := by
  rwa [List.take_of_length_le (by omega), List.take_of_length_le (by omega)] at h
set_option maxHeartbeats 4000000 in
set_option maxRecDepth 100000 in
theorem sameWh (v1 v2 : Value) (n1 n2 : Int) (LL MM : List (List Tm)) (w : World) (r1 : LsAt w v1 LL) (r2 : LsAt w v2 MM) (r : Bool) (hr : ((n1 = n2 ∧ LL = MM) ∧ r = true) ∨ (¬ (n1 = n2 ∧ LL = MM) ∧ r = false)) :
    Calls Try.prog 9 #[.agg #[.int .i64 n1, v1], .agg #[.int .i64 n2, v2]] w fun e w' => e = .returned (.bool r) ∧ Below w.heap.size w w' := by
  obtain ⟨V1, hV1, r1, s1⟩ := r1
  obtain ⟨V2, hV2, r2, s2⟩ := r2
  obtain ⟨a1, c1, rfl, l1, m1, _, p1⟩ := RowAt_fn (f := fun x : Value => [x]) undef r1
  obtain ⟨a2, c2, rfl, l2, m2, _, p2⟩ := RowAt_fn (f := fun x : Value => [x]) undef r2
  rw [hV1] at l1 p1 ⊢
  rw [hV2] at l2 p2 ⊢
  have P1 := Lib.hid p1
  have P2 := Lib.hid p2
  have S1 := Lib.hid s1
  have S2 := Lib.hid s2
  have HV1 := Lib.hid hV1
  have HV2 := Lib.hid hV2
  have HR := Lib.hid hr
  unfold maxLen at m1
  clear r1 r2 p1 p2 hr s1 s2 hV1 hV2
  by_cases hn : n1 = n2
  rotate_left
  · have hr : r = false := by rcases HR.out with ⟨⟨h, _⟩, _⟩ | ⟨_, h⟩; exact absurd h hn; exact h
    subst hr
    clear HR P1 P2 S1 S2 HV1 HV2
    go_enter Try.func9, Try.ntmps9
    go_wp2
    all_goals first | (go_ret; exact ⟨rfl, (by repeat (first | (with_reducible exact Below.refl _ _) | (with_reducible assumption) | (with_reducible refine Below.drew ?_) | (with_reducible refine Below_drewN ?_) | (with_reducible refine Below.alloc ?_ (by first | omega | (simp; done) | (simp; omega)) _) | (with_reducible refine Below.setCell ?_ (by first | omega | (simp; done) | (simp; omega)) _) | (with_reducible refine Below.trans ?_ (Below.mono (by assumption) (by first | omega | (simp; done) | (simp; omega))))))⟩) | (exfalso; first | omega | (simp at *; omega) | (simp at *; done))
  subst hn
  by_cases hl : LL.length = MM.length
  rotate_left
  · have hr : r = false := by rcases HR.out with ⟨⟨_, h⟩, _⟩ | ⟨_, h⟩; exact absurd (by rw [h]) hl; exact h
    subst hr
    have e1 : ((LL.length : Int) != (MM.length : Int)) = true := by rw [bne_iff_ne]; omega
    have e2 : ¬ (LL.length : Int) = (MM.length : Int) := by omega
    clear HR P1 P2 S1 S2 HV1 HV2
    go_enter Try.func9, Try.ntmps9
    go_wp2
    all_goals first | (go_ret; exact ⟨rfl, (by repeat (first | (with_reducible exact Below.refl _ _) | (with_reducible assumption) | (with_reducible refine Below.drew ?_) | (with_reducible refine Below_drewN ?_) | (with_reducible refine Below.alloc ?_ (by first | omega | (simp; done) | (simp; omega)) _) | (with_reducible refine Below.setCell ?_ (by first | omega | (simp; done) | (simp; omega)) _) | (with_reducible refine Below.trans ?_ (Below.mono (by assumption) (by first | omega | (simp; done) | (simp; omega))))))⟩) | (exfalso; first | omega | (simp at *; omega) | (simp at *; done))
  · go_enter Try.func9, Try.ntmps9
    have e1 : ((LL.length : Int) != (MM.length : Int)) = false := by rw [bne_eq_false_iff_eq]; omega
    have e2 : (LL.length : Int) = (MM.length : Int) := by omega
    have HL := Lib.hid hl
    clear hl
    go_wp2
    clear e1 e2
    go_loopw [5] (fun i wr => ∃ k : Nat, k ≤ LL.length ∧ i = .int .i64 k ∧ LL.take k = MM.take k ∧ Below w.heap.size w wr ∧ w.heap.size + 1 < wr.heap.size ∧ wr.cell? ⟨w.heap.size, 1, none⟩ = some (.slice a1 LL.length c1) ∧ wr.cell? ⟨w.heap.size + 1, 1, none⟩ = some (.slice a2 MM.length c2)) (fun i _ => LL.length - (intOf i).toNat)
    case atStart => exact ⟨0, Nat.zero_le _, rfl, rfl, ((Below.refl _ _).alloc (Nat.le_refl _) _).alloc (by simp) _, by simp, by go_simp, by go_simp⟩
    case round =>
      obtain ⟨k, hk, rfl, hT, hbel, hz, t1, t2⟩ := hrel
      have HB := Lib.hid hbel
      rcases (show k < LL.length ∨ LL.length = k by omega) with hlt | heq
      · have hlt' : (k : Int) < (LL.length : Int) := by omega
        have hlY : k < MM.length := by have := HL.out; omega
        have hlY' : (k : Int) < (MM.length : Int) := by omega
        have p0 : (0 : Int) ≤ (k : Int) := by omega
        obtain ⟨b1, o1, rfl, hb1, q1⟩ := P1.out (by have := HV1.out; intro h; rw [h] at this; simp at this; omega)
        obtain ⟨b2, o2, rfl, hb2, q2⟩ := P2.out (by have := HV2.out; intro h; rw [h] at this; simp at this; omega)
        have a0 := cell_below hbel (q1 k 0 hlt (by omega)) hb1
        have d0 := cell_below hbel (q2 k 0 hlY (by omega)) hb2
        have g1 := RowAt_below (S1.out k hlt) hbel
        have g2 := RowAt_below (S2.out k hlY) hbel
        simp only [Nat.mul_one, Nat.add_zero] at a0 d0
        obtain ⟨x, hx⟩ : ∃ x, x = V1.getD k undef := ⟨_, rfl⟩
        obtain ⟨y, hy⟩ : ∃ y, y = V2.getD k undef := ⟨_, rfl⟩
        rw [← hx] at a0 g1
        rw [← hy] at d0 g2
        obtain ⟨A, hA⟩ : ∃ A, A = LL.getD k [] := ⟨_, rfl⟩
        obtain ⟨B, hB⟩ : ∃ B, B = MM.getD k [] := ⟨_, rfl⟩
        rw [← hA] at g1
        rw [← hB] at g2
        have HA := Lib.hid hA
        have HBB := Lib.hid hB
        have HT := Lib.hid hT
        have G1 := Lib.hid g1
        have G2 := Lib.hid g2
        clear hx hy hT q1 q2 g1 g2 hA hB
        by_cases he : A = B
        · have HN := Lib.hid (gq_step (d := []) hlt hlY HT.out (by rw [← HA.out, ← HBB.out]; exact he))
          obtain ⟨rr, hrr, hrr'⟩ : ∃ rr : Bool, rr = true ∧ ((A = B ∧ rr = true) ∨ (A ≠ B ∧ rr = false)) := ⟨true, rfl, Or.inl ⟨he, rfl⟩⟩
          have HRR := Lib.hid hrr'
          clear he hrr'
          go_wp2_with fail
          (refine wp_region_noPanic ?_; refine wp_region_held_drew (S := fun w' => w'.cell? ⟨w.heap.size, 1, none⟩ = some (.slice (some ⟨b1, o1, none⟩) LL.length c1) ∧ w'.cell? ⟨w.heap.size + 1, 1, none⟩ = some (.slice (some ⟨b2, o2, none⟩) MM.length c2) ∧ w'.cell? ⟨b1, o1 + k, none⟩ = some x ∧ w'.cell? ⟨b2, o2 + k, none⟩ = some y) (by kernel_rfl) ?q1xb (fun hHeld => ?_); (case q1xb => ((try dsimp only); ((go_split_ands; (try dsimp only); (repeat' apply And.intro); all_goals (repeat (first | with_reducible assumption | (with_reducible refine (cell_set_ne ?_).trans ?_; omega) | (with_reducible refine cell_alloc _ ?_) | (with_reducible refine cell_drew ?_) | (with_reducible refine cell_below' hb2 ?_))))))); refine wpAnyH_take (i := 0) (v := ?q1xv0) (by simp only [List.getElem?_toArray, List.getElem?_cons_zero]; exact rfl) (by kernel_rfl) (by kernel_rfl) (by kernel_rfl) (fun _ _ _ h => h) (Or.inl ⟨by rfl, ?q1xy0⟩) (by assumption) ?_; (case q1xy0 => (intro w hSw; (try dsimp only at hSw); go_simp; (try with_reducible rfl))); (try simp only [Act.put, List.setIfInBounds_toArray, List.set_cons_zero, List.set_cons_succ]); refine wpAnyH_take (i := 1) (v := ?q1xv1) (by simp only [List.getElem?_toArray, List.getElem?_cons_zero, List.getElem?_cons_succ]; exact rfl) (by kernel_rfl) (by kernel_rfl) (by kernel_rfl) (fun _ _ _ h => h) (Or.inl ⟨by rfl, ?q1xy1⟩) (by assumption) ?_; (case q1xy1 => (intro w hSw; (try dsimp only at hSw); go_simp; (try with_reducible rfl))); (try simp only [Act.put, List.setIfInBounds_toArray, List.set_cons_zero, List.set_cons_succ]); refine wpAnyH_take (i := 2) (v := ?q1xv2) (by simp only [List.getElem?_toArray, List.getElem?_cons_zero, List.getElem?_cons_succ]; exact rfl) (by kernel_rfl) (by kernel_rfl) (by kernel_rfl) (fun _ _ _ h => h) (Or.inl ⟨by rfl, ?q1xy2⟩) (by assumption) ?_; (case q1xy2 => (intro w hSw; (try dsimp only at hSw); go_simp; (try with_reducible rfl))); (try simp only [Act.put, List.setIfInBounds_toArray, List.set_cons_zero, List.set_cons_succ]); refine wpAnyH_take (i := 3) (v := ?q1xv3) (by simp only [List.getElem?_toArray, List.getElem?_cons_zero, List.getElem?_cons_succ]; exact rfl) (by kernel_rfl) (by kernel_rfl) (by kernel_rfl) (fun _ _ _ h => h) (Or.inl ⟨by rfl, ?q1xy3⟩) (by assumption) ?_; (case q1xy3 => (intro w hSw; (try dsimp only at hSw); go_simp; (try with_reducible rfl))); (try simp only [Act.put, List.setIfInBounds_toArray, List.set_cons_zero, List.set_cons_succ]); refine wpAnyH_take (i := 4) (v := ?q1xv4) (by simp only [List.getElem?_toArray, List.getElem?_cons_zero, List.getElem?_cons_succ]; exact rfl) (by kernel_rfl) (by kernel_rfl) (by kernel_rfl) (fun _ _ _ h => h) (Or.inl ⟨by rfl, ?q1xy4⟩) (by assumption) ?_; (case q1xy4 => (intro w hSw; (try dsimp only at hSw); go_simp; (try with_reducible rfl))); (try simp only [Act.put, List.setIfInBounds_toArray, List.set_cons_zero, List.set_cons_succ]); refine wpAnyH_take (i := 5) (v := ?q1xv5) (by simp only [List.getElem?_toArray, List.getElem?_cons_zero, List.getElem?_cons_succ]; exact rfl) (by kernel_rfl) (by kernel_rfl) (by kernel_rfl) (fun _ _ _ h => h) (Or.inl ⟨by rfl, ?q1xy5⟩) (by assumption) ?_; (case q1xy5 => (intro w hSw; (try dsimp only at hSw); go_simp; (try with_reducible rfl))); (try simp only [Act.put, List.setIfInBounds_toArray, List.set_cons_zero, List.set_cons_succ]); refine wpAnyH_take (i := 6) (v := ?q1xv6) (by simp only [List.getElem?_toArray, List.getElem?_cons_zero, List.getElem?_cons_succ]; exact rfl) (by kernel_rfl) (by kernel_rfl) (by kernel_rfl) (fun _ _ _ h => h) (Or.inl ⟨by rfl, ?q1xy6⟩) (by assumption) ?_; (case q1xy6 => (intro w hSw; (try dsimp only at hSw); go_simp; (try with_reducible rfl))); (try simp only [Act.put, List.setIfInBounds_toArray, List.set_cons_zero, List.set_cons_succ]); refine wpAnyH_take (i := 7) (v := ?q1xv7) (by simp only [List.getElem?_toArray, List.getElem?_cons_zero, List.getElem?_cons_succ]; exact rfl) (by kernel_rfl) (by kernel_rfl) (by kernel_rfl) (fun _ _ _ h => h) (Or.inl ⟨by rfl, ?q1xy7⟩) (by assumption) ?_; (case q1xy7 => (intro w hSw; (try dsimp only at hSw); go_simp; (try with_reducible rfl))); (try simp only [Act.put, List.setIfInBounds_toArray, List.set_cons_zero, List.set_cons_succ]); refine wpAnyH_take (i := 8) (v := ?q1xv8) (by simp only [List.getElem?_toArray, List.getElem?_cons_zero, List.getElem?_cons_succ]; exact rfl) (by kernel_rfl) (by kernel_rfl) (by kernel_rfl) (fun _ _ _ h => h) (Or.inl ⟨by rfl, ?q1xy8⟩) (by assumption) ?_; (case q1xy8 => (intro w hSw; (try dsimp only at hSw); go_simp; (try with_reducible rfl))); (try simp only [Act.put, List.setIfInBounds_toArray, List.set_cons_zero, List.set_cons_succ]); refine wpAnyH_take (i := 9) (v := ?q1xv9) (by simp only [List.getElem?_toArray, List.getElem?_cons_zero, List.getElem?_cons_succ]; exact rfl) (by kernel_rfl) (by kernel_rfl) (by kernel_rfl) (fun _ _ _ h => h) (Or.inl ⟨by rfl, ?q1xy9⟩) (by assumption) ?_; (case q1xy9 => (intro w hSw; (try dsimp only at hSw); go_simp; (try with_reducible rfl))); (try simp only [Act.put, List.setIfInBounds_toArray, List.set_cons_zero, List.set_cons_succ]); refine wpAnyH_ready (rs := [10]) (by kernel_rfl) (by simp) ?_; refine AllReadyH.cons (by simp only [List.getElem?_toArray, List.getElem?_cons_zero, List.getElem?_cons_succ]; exact rfl) (fun K hK => ?_) AllReadyH.nil; go_simp; (go_at_call 23; refine (sameTm _ _ A B _ (by first | exact G1.out | exact RowAt_drewN G1.out _) (by first | exact G2.out | exact RowAt_drewN G2.out _) rr HRR.out).mono ?_; rintro e w2 ⟨rfl, hb2⟩); (try go_wp2_with fail); refine hK.out _ _ ?q1xs10 (fun hHeld => ?_); (case q1xs10 => ((try dsimp only); ((go_split_ands; (try dsimp only); (repeat' apply And.intro); all_goals (repeat (first | with_reducible assumption | (with_reducible refine (cell_set_ne ?_).trans ?_; omega) | (with_reducible refine cell_alloc _ ?_) | (with_reducible refine cell_drew ?_) | (with_reducible refine cell_below' hb2 ?_))))))); clear hK K; (try simp only [Act.put, List.setIfInBounds_toArray, List.set_cons_zero, List.set_cons_succ]); refine wpAnyH_take (i := 11) (v := ?q1xv11) (by simp only [List.getElem?_toArray, List.getElem?_cons_zero, List.getElem?_cons_succ]; exact rfl) (by kernel_rfl) (by kernel_rfl) (by kernel_rfl) (fun _ _ _ h => h) (Or.inl ⟨by rfl, ?q1xy11⟩) (by assumption) ?_; (case q1xy11 => (intro w hSw; (try dsimp only at hSw); go_simp; (try with_reducible rfl))); (try simp only [Act.put, List.setIfInBounds_toArray, List.set_cons_zero, List.set_cons_succ]); refine wpAnyH_done (by kernel_rfl) ?_ _; refine NoPanic.normal ?_)
          subst hrr
          go_wp2
          have hbD : Below wr.heap.size wr w2 := (Below_drewN (n := 1) (Below.refl wr.heap.size wr)).trans (hb2.mono (by simp))
          go_roundw
          case rel => exact ⟨k + 1, by omega, by go_num, HN.out, HB.out.trans (hbD.mono (by omega)), by have := hbD.size; omega, cell_below' hbD t1, cell_below' hbD t2⟩
          case measure => simp [intOf]; omega
        · have hr : r = false := by
            rcases HR.out with ⟨⟨_, h⟩, _⟩ | ⟨_, h⟩
            · exact absurd (by rw [HA.out, HBB.out, h]) he
            · exact h
          subst hr
          obtain ⟨rr, hrr, hrr'⟩ : ∃ rr : Bool, rr = false ∧ ((A = B ∧ rr = true) ∨ (A ≠ B ∧ rr = false)) := ⟨false, rfl, Or.inr ⟨he, rfl⟩⟩
          have HRR := Lib.hid hrr'
          clear he hrr'
          go_wp2_with fail
          (refine wp_region_noPanic ?_; refine wp_region_held_drew (S := fun w' => w'.cell? ⟨w.heap.size, 1, none⟩ = some (.slice (some ⟨b1, o1, none⟩) LL.length c1) ∧ w'.cell? ⟨w.heap.size + 1, 1, none⟩ = some (.slice (some ⟨b2, o2, none⟩) MM.length c2) ∧ w'.cell? ⟨b1, o1 + k, none⟩ = some x ∧ w'.cell? ⟨b2, o2 + k, none⟩ = some y) (by kernel_rfl) ?q2xb (fun hHeld => ?_); (case q2xb => ((try dsimp only); ((go_split_ands; (try dsimp only); (repeat' apply And.intro); all_goals (repeat (first | with_reducible assumption | (with_reducible refine (cell_set_ne ?_).trans ?_; omega) | (with_reducible refine cell_alloc _ ?_) | (with_reducible refine cell_drew ?_) | (with_reducible refine cell_below' hb2 ?_))))))); refine wpAnyH_take (i := 0) (v := ?q2xv0) (by simp only [List.getElem?_toArray, List.getElem?_cons_zero]; exact rfl) (by kernel_rfl) (by kernel_rfl) (by kernel_rfl) (fun _ _ _ h => h) (Or.inl ⟨by rfl, ?q2xy0⟩) (by assumption) ?_; (case q2xy0 => (intro w hSw; (try dsimp only at hSw); go_simp; (try with_reducible rfl))); (try simp only [Act.put, List.setIfInBounds_toArray, List.set_cons_zero, List.set_cons_succ]); refine wpAnyH_take (i := 1) (v := ?q2xv1) (by simp only [List.getElem?_toArray, List.getElem?_cons_zero, List.getElem?_cons_succ]; exact rfl) (by kernel_rfl) (by kernel_rfl) (by kernel_rfl) (fun _ _ _ h => h) (Or.inl ⟨by rfl, ?q2xy1⟩) (by assumption) ?_; (case q2xy1 => (intro w hSw; (try dsimp only at hSw); go_simp; (try with_reducible rfl))); (try simp only [Act.put, List.setIfInBounds_toArray, List.set_cons_zero, List.set_cons_succ]); refine wpAnyH_take (i := 2) (v := ?q2xv2) (by simp only [List.getElem?_toArray, List.getElem?_cons_zero, List.getElem?_cons_succ]; exact rfl) (by kernel_rfl) (by kernel_rfl) (by kernel_rfl) (fun _ _ _ h => h) (Or.inl ⟨by rfl, ?q2xy2⟩) (by assumption) ?_; (case q2xy2 => (intro w hSw; (try dsimp only at hSw); go_simp; (try with_reducible rfl))); (try simp only [Act.put, List.setIfInBounds_toArray, List.set_cons_zero, List.set_cons_succ]); refine wpAnyH_take (i := 3) (v := ?q2xv3) (by simp only [List.getElem?_toArray, List.getElem?_cons_zero, List.getElem?_cons_succ]; exact rfl) (by kernel_rfl) (by kernel_rfl) (by kernel_rfl) (fun _ _ _ h => h) (Or.inl ⟨by rfl, ?q2xy3⟩) (by assumption) ?_; (case q2xy3 => (intro w hSw; (try dsimp only at hSw); go_simp; (try with_reducible rfl))); (try simp only [Act.put, List.setIfInBounds_toArray, List.set_cons_zero, List.set_cons_succ]); refine wpAnyH_take (i := 4) (v := ?q2xv4) (by simp only [List.getElem?_toArray, List.getElem?_cons_zero, List.getElem?_cons_succ]; exact rfl) (by kernel_rfl) (by kernel_rfl) (by kernel_rfl) (fun _ _ _ h => h) (Or.inl ⟨by rfl, ?q2xy4⟩) (by assumption) ?_; (case q2xy4 => (intro w hSw; (try dsimp only at hSw); go_simp; (try with_reducible rfl))); (try simp only [Act.put, List.setIfInBounds_toArray, List.set_cons_zero, List.set_cons_succ]); refine wpAnyH_take (i := 5) (v := ?q2xv5) (by simp only [List.getElem?_toArray, List.getElem?_cons_zero, List.getElem?_cons_succ]; exact rfl) (by kernel_rfl) (by kernel_rfl) (by kernel_rfl) (fun _ _ _ h => h) (Or.inl ⟨by rfl, ?q2xy5⟩) (by assumption) ?_; (case q2xy5 => (intro w hSw; (try dsimp only at hSw); go_simp; (try with_reducible rfl))); (try simp only [Act.put, List.setIfInBounds_toArray, List.set_cons_zero, List.set_cons_succ]); refine wpAnyH_take (i := 6) (v := ?q2xv6) (by simp only [List.getElem?_toArray, List.getElem?_cons_zero, List.getElem?_cons_succ]; exact rfl) (by kernel_rfl) (by kernel_rfl) (by kernel_rfl) (fun _ _ _ h => h) (Or.inl ⟨by rfl, ?q2xy6⟩) (by assumption) ?_; (case q2xy6 => (intro w hSw; (try dsimp only at hSw); go_simp; (try with_reducible rfl))); (try simp only [Act.put, List.setIfInBounds_toArray, List.set_cons_zero, List.set_cons_succ]); refine wpAnyH_take (i := 7) (v := ?q2xv7) (by simp only [List.getElem?_toArray, List.getElem?_cons_zero, List.getElem?_cons_succ]; exact rfl) (by kernel_rfl) (by kernel_rfl) (by kernel_rfl) (fun _ _ _ h => h) (Or.inl ⟨by rfl, ?q2xy7⟩) (by assumption) ?_; (case q2xy7 => (intro w hSw; (try dsimp only at hSw); go_simp; (try with_reducible rfl))); (try simp only [Act.put, List.setIfInBounds_toArray, List.set_cons_zero, List.set_cons_succ]); refine wpAnyH_take (i := 8) (v := ?q2xv8) (by simp only [List.getElem?_toArray, List.getElem?_cons_zero, List.getElem?_cons_succ]; exact rfl) (by kernel_rfl) (by kernel_rfl) (by kernel_rfl) (fun _ _ _ h => h) (Or.inl ⟨by rfl, ?q2xy8⟩) (by assumption) ?_; (case q2xy8 => (intro w hSw; (try dsimp only at hSw); go_simp; (try with_reducible rfl))); (try simp only [Act.put, List.setIfInBounds_toArray, List.set_cons_zero, List.set_cons_succ]); refine wpAnyH_take (i := 9) (v := ?q2xv9) (by simp only [List.getElem?_toArray, List.getElem?_cons_zero, List.getElem?_cons_succ]; exact rfl) (by kernel_rfl) (by kernel_rfl) (by kernel_rfl) (fun _ _ _ h => h) (Or.inl ⟨by rfl, ?q2xy9⟩) (by assumption) ?_; (case q2xy9 => (intro w hSw; (try dsimp only at hSw); go_simp; (try with_reducible rfl))); (try simp only [Act.put, List.setIfInBounds_toArray, List.set_cons_zero, List.set_cons_succ]); refine wpAnyH_ready (rs := [10]) (by kernel_rfl) (by simp) ?_; refine AllReadyH.cons (by simp only [List.getElem?_toArray, List.getElem?_cons_zero, List.getElem?_cons_succ]; exact rfl) (fun K hK => ?_) AllReadyH.nil; go_simp; (go_at_call 23; refine (sameTm _ _ A B _ (by first | exact G1.out | exact RowAt_drewN G1.out _) (by first | exact G2.out | exact RowAt_drewN G2.out _) rr HRR.out).mono ?_; rintro e w2 ⟨rfl, hb2⟩); (try go_wp2_with fail); refine hK.out _ _ ?q2xs10 (fun hHeld => ?_); (case q2xs10 => ((try dsimp only); ((go_split_ands; (try dsimp only); (repeat' apply And.intro); all_goals (repeat (first | with_reducible assumption | (with_reducible refine (cell_set_ne ?_).trans ?_; omega) | (with_reducible refine cell_alloc _ ?_) | (with_reducible refine cell_drew ?_) | (with_reducible refine cell_below' hb2 ?_))))))); clear hK K; (try simp only [Act.put, List.setIfInBounds_toArray, List.set_cons_zero, List.set_cons_succ]); refine wpAnyH_take (i := 11) (v := ?q2xv11) (by simp only [List.getElem?_toArray, List.getElem?_cons_zero, List.getElem?_cons_succ]; exact rfl) (by kernel_rfl) (by kernel_rfl) (by kernel_rfl) (fun _ _ _ h => h) (Or.inl ⟨by rfl, ?q2xy11⟩) (by assumption) ?_; (case q2xy11 => (intro w hSw; (try dsimp only at hSw); go_simp; (try with_reducible rfl))); (try simp only [Act.put, List.setIfInBounds_toArray, List.set_cons_zero, List.set_cons_succ]); refine wpAnyH_done (by kernel_rfl) ?_ _; refine NoPanic.normal ?_)
          subst hrr
          go_wp2
          have hbD : Below wr.heap.size wr w2 := (Below_drewN (n := 1) (Below.refl wr.heap.size wr)).trans (hb2.mono (by simp))
          all_goals first | (go_ret; exact ⟨rfl, HB.out.trans (hbD.mono (by omega))⟩) | (exfalso; first | omega | (simp at *; omega) | (simp at *; done))
      · have hge : ¬ (k : Int) < (LL.length : Int) := by omega
        have hr : r = true := by
          rcases HR.out with ⟨_, h⟩ | ⟨h, _⟩
          · exact h
          · exact absurd ⟨by trivial, gq_all heq (by have := HL.out; omega) hT⟩ h
        subst hr
        clear heq
        go_wp2
        all_goals first | (go_ret; exact ⟨rfl, HB.out⟩) | (exfalso; first | omega | (simp at *; omega) | (simp at *; done))
end Go.Proofs.Ythgfiadfpgfjdaa
