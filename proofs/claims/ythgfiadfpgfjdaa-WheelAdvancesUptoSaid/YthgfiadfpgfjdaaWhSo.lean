/- slices.IsSortedFunc at []Timer by wheel.order. -/
import Derived.Test.YthgfiadfpgfjdaaBsTm
namespace Go.Proofs.Ythgfiadfpgfjdaa
open Go.RowKit Go.Shelf Go.Sort
theorem ordT_adj {X : List Tm} (h : ∀ k, k + 1 < X.length → tmA (X.getD (k + 1) Tm.zero) (X.getD k Tm.zero) = false) : OrdT X := by
  have key : ∀ j i, i ≤ j → j < X.length → tmLe (X.getD i Tm.zero) (X.getD j Tm.zero) = true := by
    intro j
    induction j with
    | zero =>
      intro i hi hj
      obtain rfl : i = 0 := by omega
      unfold tmLe; rw [tmA_irrefl]; rfl
    | succ j ih =>
      intro i hi hj
      by_cases h' : i = j + 1
      · subst h'; unfold tmLe; rw [tmA_irrefl]; rfl
      · refine tmLe_trans _ _ _ (ih i (by omega) (by omega)) ?_
        unfold tmLe; rw [h j hj]; rfl
  refine List.pairwise_iff_getElem.2 fun i j hi hj hij => ?_
  have := key j i (by omega) hj
  simpa [List.getD, hi, hj] using this
set_option maxHeartbeats 4000000 in
set_option maxRecDepth 100000 in
theorem isSoTm (v : Value) (X : List Tm) (w : World) (r0 : RowAt w 2 v (X.map Tm.cells)) (hn : X.length ≤ 1000000000000000) (r : Bool) (hr : (OrdT X ∧ r = true) ∨ (¬ OrdT X ∧ r = false)) : Calls Try.prog 26 #[v, .func (.func 27) #[] #[]] w fun e w' => e = .returned (.bool r) ∧ Below w.heap.size w w' := by
  obtain ⟨a, c, rfl, l1, m1, n1, p1⟩ := RowAt_fn Tm.zero r0
  have HR := Lib.hid hr
  have eg : ∀ args w, (callFunc 27 args).run Try.prog w = .ok (.enter 27 args) w := enters_of Try.func27 (by kernel_rfl) rfl
  unfold maxLen at m1
  clear r0 hr
  by_cases hX : X = []
  · obtain rfl : r = true := by
      rcases HR.out with ⟨_, h⟩ | ⟨h, _⟩
      · exact h
      · exact absurd (by rw [hX]; exact List.Pairwise.nil) h
    subst hX
    clear HR p1
    go_enter Try.func26, Try.ntmps26
    go_wp2
    refine wp_loop_rounds 1 ?_
    rw [rounds_succ]
    go_wp2
    all_goals first | (go_ret; exact ⟨rfl, (by repeat (first | (with_reducible exact Below.refl _ _) | (with_reducible assumption) | (with_reducible refine Below.drew ?_) | (with_reducible refine Below_drewN ?_) | (with_reducible refine Below.alloc ?_ (by first | omega | (simp; done) | (simp; omega)) _) | (with_reducible refine Below.setCell ?_ (by first | omega | (simp; done) | (simp; omega)) _) | (with_reducible refine Below.trans ?_ (Below.mono (by assumption) (by first | omega | (simp; done) | (simp; omega))))))⟩) | (exfalso; first | omega | (simp at *; omega) | (simp at *; done))
  · obtain ⟨b0, o0, rfl, hb0, q1⟩ := p1 hX
    have Q1 := Lib.hid q1
    obtain ⟨n, hl⟩ : ∃ n, X.length = n + 1 := ⟨X.length - 1, by have := List.length_pos_iff.2 hX; omega⟩
    rw [hl]
    have HL := Lib.hid hl
    have hl1 : n + 1 ≤ X.length := by omega
    have hl2 : X.length ≤ n + 1 := by omega
    clear p1 q1 hl hX
    go_enter Try.func26, Try.ntmps26
    go_wp2
    go_loopw [5] (fun i wr => ∃ k : Nat, k ≤ n ∧ i = .int .i64 k ∧ (∀ m, k ≤ m → m + 1 < X.length → tmA (X.getD (m + 1) Tm.zero) (X.getD m Tm.zero) = false) ∧ Below w.heap.size w wr) (fun i _ => (intOf i).toNat)
    case atStart => exact ⟨n, Nat.le_refl _, by go_num, fun m h1 h2 => by omega, Below.refl _ _⟩
    case round =>
      obtain ⟨k, hk, rfl, hall, hb⟩ := hrel
      have HA := Lib.hid hall
      have HB := Lib.hid hb
      rcases (show k = 0 ∨ ∃ q, k = q + 1 by rcases k with _ | q; exact Or.inl rfl; exact Or.inr ⟨q, rfl⟩) with hk0 | ⟨q, rfl⟩
      · obtain rfl : r = true := by
          rcases HR.out with ⟨_, h⟩ | ⟨h, _⟩
          · exact h
          · exact absurd (ordT_adj fun m hm => HA.out m (by omega) hm) h
        clear HR hb hall
        subst hk0
        go_wp2
        all_goals first | (go_ret; exact ⟨rfl, HB.out⟩) | (exfalso; first | omega | (simp at *; omega) | (simp at *; done))
      · obtain ⟨s, hs⟩ : ∃ s, s = X.getD (q + 1) Tm.zero := ⟨_, rfl⟩
        obtain ⟨t, ht⟩ : ∃ t, t = X.getD q Tm.zero := ⟨_, rfl⟩
        have a0 := Q1.out (q + 1) 0 (by omega) (by omega)
        have a1 := Q1.out (q + 1) 1 (by omega) (by omega)
        have d0 := Q1.out q 0 (by omega) (by omega)
        have d1 := Q1.out q 1 (by omega) (by omega)
        rw [← hs] at a0 a1
        rw [← ht] at d0 d1
        have HS := Lib.hid hs
        have HT := Lib.hid ht
        obtain ⟨s0, s1⟩ := s
        obtain ⟨t0, t1⟩ := t
        simp only [Tm.cells, List.getElem?_cons_zero, List.getElem?_cons_succ, Nat.add_zero] at a0 a1 d0 d1
        have a0 := cell_below hb a0 hb0
        have a1 := cell_below hb a1 hb0
        have d0 := cell_below hb d0 hb0
        have d1 := cell_below hb d1 hb0
        have hbw := hb.size
        obtain ⟨x, hx⟩ : ∃ x, x = cfTm ⟨s0, s1⟩ ⟨t0, t1⟩ := ⟨_, rfl⟩
        have HX := Lib.hid hx
        have hq1 : (0 : Int) < (q : Int) + 1 := by omega
        have hq2 : (q : Int) + 1 < (n : Int) + 1 := by omega
        have hq3 : (q : Int) < (n : Int) + 1 := by omega
        have hq0 : (0 : Int) ≤ (q : Int) := by omega
        have hq4 : (0 : Int) ≤ (q : Int) + 1 := by omega
        have hq5 : ((q : Int) + 1).toNat = q + 1 := by omega
        have hq6 : IntKind.i64.wrap (q : Int) = (q : Int) := IntWalk.i64_in _ (by omega)
        clear hs ht hb hall hx
        by_cases hneg : x < 0
        · obtain rfl : r = false := by
            rcases HR.out with ⟨h, _⟩ | ⟨_, h⟩
            · have h1 : tmA ⟨s0, s1⟩ ⟨t0, t1⟩ = true := lt_cfT.1 (by rw [← HX.out]; exact hneg)
              have h2 := ordT_getD h (show q ≤ q + 1 by omega) (by omega)
              rw [← HS.out, ← HT.out] at h2
              unfold tmLe at h2
              rw [h1] at h2; cases h2
            · exact h
          go_wp2_with fail
          (refine wp_region_noPanic ?_; refine wp_region_held_drew (S := fun w' => w'.cell? ⟨b0, o0 + (q + 1) * 2, none⟩ = some (.int .i64 s0) ∧ w'.cell? ⟨b0, o0 + (q + 1) * 2 + 1, none⟩ = some (.int .i64 s1) ∧ w'.cell? ⟨b0, o0 + q * 2, none⟩ = some (.int .i64 t0) ∧ w'.cell? ⟨b0, o0 + q * 2 + 1, none⟩ = some (.int .i64 t1)) (by kernel_rfl) ?q1xb (fun hHeld => ?_); (case q1xb => ((try dsimp only); ((go_split_ands; (try dsimp only); (repeat' apply And.intro); all_goals (repeat (first | with_reducible assumption | (with_reducible refine (cell_set_ne ?_).trans ?_; omega) | (with_reducible refine cell_alloc _ ?_) | (with_reducible refine cell_drew ?_) | (with_reducible refine cell_below' hb2 ?_))))))); refine wpAnyH_take (i := 0) (v := ?q1xv0) (by simp only [List.getElem?_toArray, List.getElem?_cons_zero]; exact rfl) (by kernel_rfl) (by kernel_rfl) (by kernel_rfl) (fun _ _ _ h => h) (Or.inl ⟨by rfl, ?q1xy0⟩) (by assumption) ?_; (case q1xy0 => (intro w hSw; (try dsimp only at hSw); go_simp; (try with_reducible rfl))); (try simp only [Act.put, List.setIfInBounds_toArray, List.set_cons_zero, List.set_cons_succ]); refine wpAnyH_take (i := 1) (v := ?q1xv1) (by simp only [List.getElem?_toArray, List.getElem?_cons_zero, List.getElem?_cons_succ]; exact rfl) (by kernel_rfl) (by kernel_rfl) (by kernel_rfl) (fun _ _ _ h => h) (Or.inl ⟨by rfl, ?q1xy1⟩) (by assumption) ?_; (case q1xy1 => (intro w hSw; (try dsimp only at hSw); go_simp; (try with_reducible rfl))); (try simp only [Act.put, List.setIfInBounds_toArray, List.set_cons_zero, List.set_cons_succ]); refine wpAnyH_take (i := 2) (v := ?q1xv2) (by simp only [List.getElem?_toArray, List.getElem?_cons_zero, List.getElem?_cons_succ]; exact rfl) (by kernel_rfl) (by kernel_rfl) (by kernel_rfl) (fun _ _ _ h => h) (Or.inl ⟨by rfl, ?q1xy2⟩) (by assumption) ?_; (case q1xy2 => (intro w hSw; (try dsimp only at hSw); go_simp; (try with_reducible rfl))); (try simp only [Act.put, List.setIfInBounds_toArray, List.set_cons_zero, List.set_cons_succ]); refine wpAnyH_take (i := 3) (v := ?q1xv3) (by simp only [List.getElem?_toArray, List.getElem?_cons_zero, List.getElem?_cons_succ]; exact rfl) (by kernel_rfl) (by kernel_rfl) (by kernel_rfl) (fun _ _ _ h => h) (Or.inl ⟨by rfl, ?q1xy3⟩) (by assumption) ?_; (case q1xy3 => (intro w hSw; (try dsimp only at hSw); go_simp; (try with_reducible rfl))); (try simp only [Act.put, List.setIfInBounds_toArray, List.set_cons_zero, List.set_cons_succ]); refine wpAnyH_take (i := 4) (v := ?q1xv4) (by simp only [List.getElem?_toArray, List.getElem?_cons_zero, List.getElem?_cons_succ]; exact rfl) (by kernel_rfl) (by kernel_rfl) (by kernel_rfl) (fun _ _ _ h => h) (Or.inl ⟨by rfl, ?q1xy4⟩) (by assumption) ?_; (case q1xy4 => (intro w hSw; (try dsimp only at hSw); go_simp; (try with_reducible rfl))); (try simp only [Act.put, List.setIfInBounds_toArray, List.set_cons_zero, List.set_cons_succ]); refine wpAnyH_take (i := 5) (v := ?q1xv5) (by simp only [List.getElem?_toArray, List.getElem?_cons_zero, List.getElem?_cons_succ]; exact rfl) (by kernel_rfl) (by kernel_rfl) (by kernel_rfl) (fun _ _ _ h => h) (Or.inl ⟨by rfl, ?q1xy5⟩) (by assumption) ?_; (case q1xy5 => (intro w hSw; (try dsimp only at hSw); go_simp; (try with_reducible rfl))); (try simp only [Act.put, List.setIfInBounds_toArray, List.set_cons_zero, List.set_cons_succ]); refine wpAnyH_take (i := 6) (v := ?q1xv6) (by simp only [List.getElem?_toArray, List.getElem?_cons_zero, List.getElem?_cons_succ]; exact rfl) (by kernel_rfl) (by kernel_rfl) (by kernel_rfl) (fun _ _ _ h => h) (Or.inl ⟨by rfl, ?q1xy6⟩) (by assumption) ?_; (case q1xy6 => (intro w hSw; (try dsimp only at hSw); go_simp; (try with_reducible rfl))); (try simp only [Act.put, List.setIfInBounds_toArray, List.set_cons_zero, List.set_cons_succ]); refine wpAnyH_take (i := 7) (v := ?q1xv7) (by simp only [List.getElem?_toArray, List.getElem?_cons_zero, List.getElem?_cons_succ]; exact rfl) (by kernel_rfl) (by kernel_rfl) (by kernel_rfl) (fun _ _ _ h => h) (Or.inl ⟨by rfl, ?q1xy7⟩) (by assumption) ?_; (case q1xy7 => (intro w hSw; (try dsimp only at hSw); go_simp; (try with_reducible rfl))); (try simp only [Act.put, List.setIfInBounds_toArray, List.set_cons_zero, List.set_cons_succ]); refine wpAnyH_take (i := 8) (v := ?q1xv8) (by simp only [List.getElem?_toArray, List.getElem?_cons_zero, List.getElem?_cons_succ]; exact rfl) (by kernel_rfl) (by kernel_rfl) (by kernel_rfl) (fun _ _ _ h => h) (Or.inl ⟨by rfl, ?q1xy8⟩) (by assumption) ?_; (case q1xy8 => (intro w hSw; (try dsimp only at hSw); go_simp; (try with_reducible rfl))); (try simp only [Act.put, List.setIfInBounds_toArray, List.set_cons_zero, List.set_cons_succ]); refine wpAnyH_take (i := 9) (v := ?q1xv9) (by simp only [List.getElem?_toArray, List.getElem?_cons_zero, List.getElem?_cons_succ]; exact rfl) (by kernel_rfl) (by kernel_rfl) (by kernel_rfl) (fun _ _ _ h => h) (Or.inl ⟨by rfl, ?q1xy9⟩) (by assumption) ?_; (case q1xy9 => (intro w hSw; (try dsimp only at hSw); go_simp; (try with_reducible rfl))); (try simp only [Act.put, List.setIfInBounds_toArray, List.set_cons_zero, List.set_cons_succ]); refine wpAnyH_ready (rs := [10]) (by kernel_rfl) (by simp) ?_; refine AllReadyH.cons (by simp only [List.getElem?_toArray, List.getElem?_cons_zero, List.getElem?_cons_succ]; exact rfl) (fun K hK => ?_) AllReadyH.nil; go_simp; (go_at_call 27; refine (orderTV ⟨s0, s1⟩ ⟨t0, t1⟩ x HX.out _).mono ?_; rintro e w2 ⟨rfl, hb2⟩); (try go_wp2_with fail); refine hK.out _ _ ?q1xs10 (fun hHeld => ?_); (case q1xs10 => ((try dsimp only); ((go_split_ands; (try dsimp only); (repeat' apply And.intro); all_goals (repeat (first | with_reducible assumption | (with_reducible refine (cell_set_ne ?_).trans ?_; omega) | (with_reducible refine cell_alloc _ ?_) | (with_reducible refine cell_drew ?_) | (with_reducible refine cell_below' hb2 ?_))))))); clear hK K; (try simp only [Act.put, List.setIfInBounds_toArray, List.set_cons_zero, List.set_cons_succ]); refine wpAnyH_take (i := 11) (v := ?q1xv11) (by simp only [List.getElem?_toArray, List.getElem?_cons_zero, List.getElem?_cons_succ]; exact rfl) (by kernel_rfl) (by kernel_rfl) (by kernel_rfl) (fun _ _ _ h => h) (Or.inl ⟨by rfl, ?q1xy11⟩) (by assumption) ?_; (case q1xy11 => (intro w hSw; (try dsimp only at hSw); go_simp; (try with_reducible rfl))); (try simp only [Act.put, List.setIfInBounds_toArray, List.set_cons_zero, List.set_cons_succ]); refine wpAnyH_done (by kernel_rfl) ?_ _; refine NoPanic.normal ?_)
          have HB2 := Lib.hid (HB.out.trans (((Below_drewN (n := 1) (Below.refl wr.heap.size wr)).trans (hb2.mono (by simp))).mono HB.out.size))
          clear hb2 a0 a1 d0 d1
          go_wp2
          all_goals first | (go_ret; exact ⟨rfl, HB2.out⟩) | (exfalso; first | omega | (simp at *; omega) | (simp at *; done))
        · have HN := Lib.hid (show tmA ⟨s0, s1⟩ ⟨t0, t1⟩ = false by
            cases h : tmA ⟨s0, s1⟩ ⟨t0, t1⟩ with
            | false => rfl
            | true => exact absurd (by rw [HX.out]; exact lt_cfT.2 h) hneg)
          go_wp2_with fail
          (refine wp_region_noPanic ?_; refine wp_region_held_drew (S := fun w' => w'.cell? ⟨b0, o0 + (q + 1) * 2, none⟩ = some (.int .i64 s0) ∧ w'.cell? ⟨b0, o0 + (q + 1) * 2 + 1, none⟩ = some (.int .i64 s1) ∧ w'.cell? ⟨b0, o0 + q * 2, none⟩ = some (.int .i64 t0) ∧ w'.cell? ⟨b0, o0 + q * 2 + 1, none⟩ = some (.int .i64 t1)) (by kernel_rfl) ?q2xb (fun hHeld => ?_); (case q2xb => ((try dsimp only); ((go_split_ands; (try dsimp only); (repeat' apply And.intro); all_goals (repeat (first | with_reducible assumption | (with_reducible refine (cell_set_ne ?_).trans ?_; omega) | (with_reducible refine cell_alloc _ ?_) | (with_reducible refine cell_drew ?_) | (with_reducible refine cell_below' hb2 ?_))))))); refine wpAnyH_take (i := 0) (v := ?q2xv0) (by simp only [List.getElem?_toArray, List.getElem?_cons_zero]; exact rfl) (by kernel_rfl) (by kernel_rfl) (by kernel_rfl) (fun _ _ _ h => h) (Or.inl ⟨by rfl, ?q2xy0⟩) (by assumption) ?_; (case q2xy0 => (intro w hSw; (try dsimp only at hSw); go_simp; (try with_reducible rfl))); (try simp only [Act.put, List.setIfInBounds_toArray, List.set_cons_zero, List.set_cons_succ]); refine wpAnyH_take (i := 1) (v := ?q2xv1) (by simp only [List.getElem?_toArray, List.getElem?_cons_zero, List.getElem?_cons_succ]; exact rfl) (by kernel_rfl) (by kernel_rfl) (by kernel_rfl) (fun _ _ _ h => h) (Or.inl ⟨by rfl, ?q2xy1⟩) (by assumption) ?_; (case q2xy1 => (intro w hSw; (try dsimp only at hSw); go_simp; (try with_reducible rfl))); (try simp only [Act.put, List.setIfInBounds_toArray, List.set_cons_zero, List.set_cons_succ]); refine wpAnyH_take (i := 2) (v := ?q2xv2) (by simp only [List.getElem?_toArray, List.getElem?_cons_zero, List.getElem?_cons_succ]; exact rfl) (by kernel_rfl) (by kernel_rfl) (by kernel_rfl) (fun _ _ _ h => h) (Or.inl ⟨by rfl, ?q2xy2⟩) (by assumption) ?_; (case q2xy2 => (intro w hSw; (try dsimp only at hSw); go_simp; (try with_reducible rfl))); (try simp only [Act.put, List.setIfInBounds_toArray, List.set_cons_zero, List.set_cons_succ]); refine wpAnyH_take (i := 3) (v := ?q2xv3) (by simp only [List.getElem?_toArray, List.getElem?_cons_zero, List.getElem?_cons_succ]; exact rfl) (by kernel_rfl) (by kernel_rfl) (by kernel_rfl) (fun _ _ _ h => h) (Or.inl ⟨by rfl, ?q2xy3⟩) (by assumption) ?_; (case q2xy3 => (intro w hSw; (try dsimp only at hSw); go_simp; (try with_reducible rfl))); (try simp only [Act.put, List.setIfInBounds_toArray, List.set_cons_zero, List.set_cons_succ]); refine wpAnyH_take (i := 4) (v := ?q2xv4) (by simp only [List.getElem?_toArray, List.getElem?_cons_zero, List.getElem?_cons_succ]; exact rfl) (by kernel_rfl) (by kernel_rfl) (by kernel_rfl) (fun _ _ _ h => h) (Or.inl ⟨by rfl, ?q2xy4⟩) (by assumption) ?_; (case q2xy4 => (intro w hSw; (try dsimp only at hSw); go_simp; (try with_reducible rfl))); (try simp only [Act.put, List.setIfInBounds_toArray, List.set_cons_zero, List.set_cons_succ]); refine wpAnyH_take (i := 5) (v := ?q2xv5) (by simp only [List.getElem?_toArray, List.getElem?_cons_zero, List.getElem?_cons_succ]; exact rfl) (by kernel_rfl) (by kernel_rfl) (by kernel_rfl) (fun _ _ _ h => h) (Or.inl ⟨by rfl, ?q2xy5⟩) (by assumption) ?_; (case q2xy5 => (intro w hSw; (try dsimp only at hSw); go_simp; (try with_reducible rfl))); (try simp only [Act.put, List.setIfInBounds_toArray, List.set_cons_zero, List.set_cons_succ]); refine wpAnyH_take (i := 6) (v := ?q2xv6) (by simp only [List.getElem?_toArray, List.getElem?_cons_zero, List.getElem?_cons_succ]; exact rfl) (by kernel_rfl) (by kernel_rfl) (by kernel_rfl) (fun _ _ _ h => h) (Or.inl ⟨by rfl, ?q2xy6⟩) (by assumption) ?_; (case q2xy6 => (intro w hSw; (try dsimp only at hSw); go_simp; (try with_reducible rfl))); (try simp only [Act.put, List.setIfInBounds_toArray, List.set_cons_zero, List.set_cons_succ]); refine wpAnyH_take (i := 7) (v := ?q2xv7) (by simp only [List.getElem?_toArray, List.getElem?_cons_zero, List.getElem?_cons_succ]; exact rfl) (by kernel_rfl) (by kernel_rfl) (by kernel_rfl) (fun _ _ _ h => h) (Or.inl ⟨by rfl, ?q2xy7⟩) (by assumption) ?_; (case q2xy7 => (intro w hSw; (try dsimp only at hSw); go_simp; (try with_reducible rfl))); (try simp only [Act.put, List.setIfInBounds_toArray, List.set_cons_zero, List.set_cons_succ]); refine wpAnyH_take (i := 8) (v := ?q2xv8) (by simp only [List.getElem?_toArray, List.getElem?_cons_zero, List.getElem?_cons_succ]; exact rfl) (by kernel_rfl) (by kernel_rfl) (by kernel_rfl) (fun _ _ _ h => h) (Or.inl ⟨by rfl, ?q2xy8⟩) (by assumption) ?_; (case q2xy8 => (intro w hSw; (try dsimp only at hSw); go_simp; (try with_reducible rfl))); (try simp only [Act.put, List.setIfInBounds_toArray, List.set_cons_zero, List.set_cons_succ]); refine wpAnyH_take (i := 9) (v := ?q2xv9) (by simp only [List.getElem?_toArray, List.getElem?_cons_zero, List.getElem?_cons_succ]; exact rfl) (by kernel_rfl) (by kernel_rfl) (by kernel_rfl) (fun _ _ _ h => h) (Or.inl ⟨by rfl, ?q2xy9⟩) (by assumption) ?_; (case q2xy9 => (intro w hSw; (try dsimp only at hSw); go_simp; (try with_reducible rfl))); (try simp only [Act.put, List.setIfInBounds_toArray, List.set_cons_zero, List.set_cons_succ]); refine wpAnyH_ready (rs := [10]) (by kernel_rfl) (by simp) ?_; refine AllReadyH.cons (by simp only [List.getElem?_toArray, List.getElem?_cons_zero, List.getElem?_cons_succ]; exact rfl) (fun K hK => ?_) AllReadyH.nil; go_simp; (go_at_call 27; refine (orderTV ⟨s0, s1⟩ ⟨t0, t1⟩ x HX.out _).mono ?_; rintro e w2 ⟨rfl, hb2⟩); (try go_wp2_with fail); refine hK.out _ _ ?q2xs10 (fun hHeld => ?_); (case q2xs10 => ((try dsimp only); ((go_split_ands; (try dsimp only); (repeat' apply And.intro); all_goals (repeat (first | with_reducible assumption | (with_reducible refine (cell_set_ne ?_).trans ?_; omega) | (with_reducible refine cell_alloc _ ?_) | (with_reducible refine cell_drew ?_) | (with_reducible refine cell_below' hb2 ?_))))))); clear hK K; (try simp only [Act.put, List.setIfInBounds_toArray, List.set_cons_zero, List.set_cons_succ]); refine wpAnyH_take (i := 11) (v := ?q2xv11) (by simp only [List.getElem?_toArray, List.getElem?_cons_zero, List.getElem?_cons_succ]; exact rfl) (by kernel_rfl) (by kernel_rfl) (by kernel_rfl) (fun _ _ _ h => h) (Or.inl ⟨by rfl, ?q2xy11⟩) (by assumption) ?_; (case q2xy11 => (intro w hSw; (try dsimp only at hSw); go_simp; (try with_reducible rfl))); (try simp only [Act.put, List.setIfInBounds_toArray, List.set_cons_zero, List.set_cons_succ]); refine wpAnyH_done (by kernel_rfl) ?_ _; refine NoPanic.normal ?_)
          have HB2 := Lib.hid (HB.out.trans (((Below_drewN (n := 1) (Below.refl wr.heap.size wr)).trans (hb2.mono (by simp))).mono HB.out.size))
          clear hb2 a0 a1 d0 d1
          go_wp2
          go_roundw
          case rel =>
            refine ⟨q, by omega, by go_num, fun m h1 h2 => ?_, HB2.out⟩
            rcases (show m = q ∨ q + 1 ≤ m by omega) with rfl | h3
            · rw [← HS.out, ← HT.out]; exact HN.out
            · exact HA.out m h3 h2
          case measure => simp [intOf]
end Go.Proofs.Ythgfiadfpgfjdaa
