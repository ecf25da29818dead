/- usherref.WheelMay. -/
import Derived.Test.YthgfiadfpgfjdaaWhWo
namespace Go.Proofs.Ythgfiadfpgfjdaa
open Go.RowKit
theorem whMay_iff (now : Int) (LL : List (List Tm)) : WhMay now LL ↔ (0 ≤ now ∧ now ≤ 1099511627776) ∧ LL.length = 25 ∧ LL.flatten.length ≤ 200 ∧ (∀ t ∈ LL.flatten, TmMay t now) ∧ (tids LL.flatten).Nodup ∧ LL = wheelOf now LL.flatten := by
  constructor
  · intro h; exact ⟨⟨h.1, h.2.1⟩, h.2.2.1, h.tot, h.tm, h.2.2.2.2, whMay_of h⟩
  · rintro ⟨⟨h1, h2⟩, h3, h4, h5, h6, h7⟩
    rw [h7]; exact (whMay_mk h1 h2 h5 h6).1
/-- What holds at the heads of WheelMay's loops; w1: the world behind TimersOf. -/
def WmRel (w w1 wr : World) (now : Int) (lv : Value) : Prop := Below w1.heap.size w1 wr ∧ wr.cell? ⟨w.heap.size, 0, none⟩ = some (.int .i64 now) ∧ wr.cell? ⟨w.heap.size, 1, none⟩ = some lv
theorem tids_snoc (X : List Tm) (t : Tm) : tids (X ++ [t]) = tids X ++ [t.id] := by simp [tids]
theorem tids_take (X : List Tm) (k : Nat) : tids (X.take k) = (tids X).take k := by simp [tids, List.map_take]
theorem getD_mem_take {X : List Tm} {k i : Nat} (hk : k < i) (hi : i ≤ X.length) : (X.getD k Tm.zero).id ∈ tids (X.take i) := by
  have h : k < X.length := by omega
  have e : X.getD k Tm.zero = X[k] := by simp [List.getD, h]
  rw [e]; refine List.mem_map_of_mem ?_
  rw [List.mem_take_iff_getElem]; exact ⟨k, by omega, rfl⟩
theorem not_nodup_take {X : List Tm} {k i : Nat} (hk : k < i) (hi : i < X.length) (h : (X.getD k Tm.zero).id = (X.getD i Tm.zero).id) : ¬ (tids X).Nodup := by
  intro hn
  have h1 : (tids (X.take (i + 1))).Nodup := by rw [tids_take]; exact (List.take_sublist _ _).nodup hn
  rw [tm_take (t := X.getD i Tm.zero) rfl hi, tids_snoc, List.nodup_append] at h1
  exact h1.2.2 _ (getD_mem_take hk (by omega)) _ (List.mem_singleton.2 rfl) h
theorem mem_take_get {X : List Tm} {i : Nat} {x : Int} (h : x ∈ tids (X.take i)) (hi : i ≤ X.length) : ∃ k, k < i ∧ (X.getD k Tm.zero).id = x := by
  obtain ⟨t, ht, rfl⟩ := List.mem_map.1 h
  obtain ⟨k, hk, rfl⟩ := List.mem_take_iff_getElem.1 ht
  have : k < X.length := by omega
  exact ⟨k, by omega, by simp [List.getD, this]⟩
theorem sameWhN (v1 v2 : Value) (n : Int) (LL MM : List (List Tm)) (w : World) (r1 : LsAt w v1 LL) (r2 : LsAt w v2 MM) (r : Bool) (hr : (LL = MM ∧ r = true) ∨ (¬ LL = MM ∧ r = false)) :
    Calls Try.prog 9 #[.agg #[.int .i64 n, v1], .agg #[.int .i64 n, v2]] w fun e w' => e = .returned (.bool r) ∧ Below w.heap.size w w' := by
  refine sameWh v1 v2 n n LL MM w r1 r2 r ?_
  rcases hr with ⟨h, hb⟩ | ⟨h, hb⟩
  · exact Or.inl ⟨⟨rfl, h⟩, hb⟩
  · exact Or.inr ⟨fun h' => h h'.2, hb⟩
theorem ref_TimersOfT (lv : Value) (now : Int) (LL : List (List Tm)) (T : List Tm) (w : World) (r : LsAt w lv LL) (hT : T = LL.flatten) (hs : T.length ≤ 1048576) : Calls Try.prog 21 #[.agg #[.int .i64 now, lv]] w (ToPost w T) := by
  subst hT; exact ref_TimersOf lv now LL w r hs
set_option maxHeartbeats 4000000 in
set_option maxRecDepth 100000 in
theorem ref_WheelMay (lv : Value) (now : Int) (LL : List (List Tm)) (w : World) (r : LsAt w lv LL) (hs : LL.flatten.length ≤ 1048576) (b : Bool) (hb : (WhMay now LL ∧ b = true) ∨ (¬ WhMay now LL ∧ b = false)) :
    Calls Try.prog 19 #[.agg #[.int .i64 now, lv]] w fun e w' => e = .returned (.bool b) ∧ Below w.heap.size w w' := by
  obtain ⟨a, cp, rfl⟩ := LsAt_shape r
  have R2 := Lib.hid (LsAt_below r ((Below.refl _ _).alloc (Nat.le_refl _) (.cells #[.int .i64 now, .slice a LL.length cp] 24)))
  rw [whMay_iff] at hb
  obtain ⟨T, hT⟩ : ∃ T, T = LL.flatten := ⟨_, rfl⟩
  rw [← hT] at hb hs
  have HT := Lib.hid hT
  clear hT
  have HR := Lib.hid hb
  clear r hb
  by_cases hn : 0 ≤ now ∧ now ≤ 1099511627776
  rotate_left
  · have hr : b = false := by rcases HR.out with ⟨h, _⟩ | ⟨_, h⟩; exact absurd h.1 hn; exact h
    subst hr
    clear HR
    go_enter Try.func19, Try.ntmps19
    go_wp2_with (go_at_call 33; first | (refine (In_yes _ _ _ _ (by omega) (by omega)).mono ?_; rintro e w' ⟨rfl, rfl⟩) | (refine (In_no _ _ _ _ (by omega)).mono ?_; rintro e w' ⟨rfl, rfl⟩))
    all_goals first | (go_ret; exact ⟨rfl, (by repeat (first | (with_reducible exact Below.refl _ _) | (with_reducible assumption) | (with_reducible refine Below.drew ?_) | (with_reducible refine Below_drewN ?_) | (with_reducible refine Below.alloc ?_ (by first | omega | (simp; done) | (simp; omega)) _) | (with_reducible refine Below.setCell ?_ (by first | omega | (simp; done) | (simp; omega)) _) | (with_reducible refine Below.trans ?_ (Below.mono (by assumption) (by first | omega | (simp; done) | (simp; omega))))))⟩) | (exfalso; first | omega | (simp at *; omega) | (simp at *; done))
  by_cases h25 : LL.length = 25
  rotate_left
  · have hr : b = false := by rcases HR.out with ⟨h, _⟩ | ⟨_, h⟩; exact absurd h.2.1 h25; exact h
    subst hr
    have e1 : ((LL.length : Int) != 25) = true := by rw [bne_iff_ne]; omega
    have e2 : ¬ (LL.length : Int) = 25 := by omega
    clear HR
    go_enter Try.func19, Try.ntmps19
    go_wp2_with (go_at_call 33; first | (refine (In_yes _ _ _ _ (by omega) (by omega)).mono ?_; rintro e w' ⟨rfl, rfl⟩) | (refine (In_no _ _ _ _ (by omega)).mono ?_; rintro e w' ⟨rfl, rfl⟩))
    all_goals first | (go_ret; exact ⟨rfl, (by repeat (first | (with_reducible exact Below.refl _ _) | (with_reducible assumption) | (with_reducible refine Below.drew ?_) | (with_reducible refine Below_drewN ?_) | (with_reducible refine Below.alloc ?_ (by first | omega | (simp; done) | (simp; omega)) _) | (with_reducible refine Below.setCell ?_ (by first | omega | (simp; done) | (simp; omega)) _) | (with_reducible refine Below.trans ?_ (Below.mono (by assumption) (by first | omega | (simp; done) | (simp; omega))))))⟩) | (exfalso; first | omega | (simp at *; omega) | (simp at *; done))
  rw [h25] at R2 ⊢
  have H25 := Lib.hid h25
  clear h25
  by_cases h200 : T.length ≤ 200
  rotate_left
  · have hr : b = false := by rcases HR.out with ⟨h, _⟩ | ⟨_, h⟩; exact absurd h.2.2.1 h200; exact h
    subst hr
    have e3 : (200 : Int) < (T.length : Int) := by omega
    clear HR
    go_enter Try.func19, Try.ntmps19
    go_wp2_with (first | (go_at_call 21; refine (ref_TimersOfT _ now LL T _ R2.out HT.out hs).mono ?_; rintro e w1 ⟨v1, rfl, hown1, hb1⟩; obtain ⟨hc1, hf1⟩ := bcell hb1; obtain ⟨av, cv, rfl, _⟩ := owns_shape hown1; have HO1 := Lib.hid hown1; clear hown1) | (go_at_call 33; first | (refine (In_yes _ _ _ _ (by omega) (by omega)).mono ?_; rintro e w' ⟨rfl, rfl⟩) | (refine (In_no _ _ _ _ (by omega)).mono ?_; rintro e w' ⟨rfl, rfl⟩)))
    all_goals first | (go_ret; exact ⟨rfl, (by repeat (first | (with_reducible exact Below.refl _ _) | (with_reducible assumption) | (with_reducible refine Below.drew ?_) | (with_reducible refine Below_drewN ?_) | (with_reducible refine Below.alloc ?_ (by first | omega | (simp; done) | (simp; omega)) _) | (with_reducible refine Below.setCell ?_ (by first | omega | (simp; done) | (simp; omega)) _) | (with_reducible refine Below.trans ?_ (Below.mono (by assumption) (by first | omega | (simp; done) | (simp; omega))))))⟩) | (exfalso; first | omega | (simp at *; omega) | (simp at *; done))
  · have e3 : ¬ (200 : Int) < (T.length : Int) := by omega
    go_enter Try.func19, Try.ntmps19
    go_wp2_with (first | (go_at_call 21; refine (ref_TimersOfT _ now LL T _ R2.out HT.out hs).mono ?_; rintro e w1 ⟨v1, rfl, hown1, hb1⟩; obtain ⟨hc1, hf1⟩ := bcell hb1; obtain ⟨av, cv, rfl, _⟩ := owns_shape hown1; have HO1 := Lib.hid hown1; clear hown1) | (go_at_call 33; first | (refine (In_yes _ _ _ _ (by omega) (by omega)).mono ?_; rintro e w' ⟨rfl, rfl⟩) | (refine (In_no _ _ _ _ (by omega)).mono ?_; rintro e w' ⟨rfl, rfl⟩)))
    obtain ⟨N, rfl⟩ := Int.eq_ofNat_of_zero_le hn.1
    have hnow := Lib.hid hn
    clear hs
    have RT := Lib.hid (RowNew_of_owns HO1.out (by rw [List.length_map]) (lenc_Tm _)).1
    obtain ⟨_, _, e0, lt, mt, _, pt⟩ := RowAt_fn Tm.zero RT.out
    injection e0 with e01 _ e03
    subst e01; subst e03
    have PT := Lib.hid pt
    clear pt HO1
    have RL := Lib.hid (LsAt_below R2.out hb1)
    have hz1 := hb1.size
    simp at hz1
    have g0 : w1.cell? ⟨w.heap.size, 0, none⟩ = some (.int .i64 (N : Int)) := cell_below hb1 (by go_simp) (by simp)
    have g1 : w1.cell? ⟨w.heap.size, 1, none⟩ = some (.slice a 25 cp) := cell_below hb1 (by go_simp) (by simp)
    have HB1 : Hid (Below w.heap.size w w1) := ((Below.refl w.heap.size w).alloc (Nat.le_refl _) _).trans (hb1.mono (by simp))
    clear hb1 hc1 hf1
    go_wp2_with fail
    go_loopw [4] (fun i wr => ∃ k : Nat, k ≤ T.length ∧ i = .int .i64 k ∧ (∀ t ∈ T.take k, TmMay t (N : Int)) ∧ (tids (T.take k)).Nodup ∧ WmRel w w1 wr (N : Int) (.slice a 25 cp)) (fun i _ => T.length - (intOf i).toNat)
    case atStart => exact ⟨0, Nat.zero_le _, rfl, by simp, by simp [tids], Below.refl _ _, g0, g1⟩
    case round =>
      obtain ⟨k, hk, rfl, hall, hnd, hbel, c0, c1⟩ := hrel
      have HA := Lib.hid hall
      have HD := Lib.hid hnd
      have HB := Lib.hid hbel
      clear hall hnd
      rcases (show k < T.length ∨ k = T.length by omega) with hkl | rfl
      · have hkl' : (k : Int) < (T.length : Int) := by omega
        have p0 : (0 : Int) ≤ (k : Int) := by omega
        obtain ⟨b1, o1, rfl, hbb, q1⟩ := PT.out (by intro h; rw [h] at hkl; simp at hkl)
        have Q1 := Lib.hid q1
        obtain ⟨t, ht⟩ : ∃ t, t = T.getD k Tm.zero := ⟨_, rfl⟩
        have d0 := q1 k 0 hkl (by omega)
        have d1 := q1 k 1 hkl (by omega)
        rw [← ht] at d0 d1
        have HTm := Lib.hid (tm_mem ht hkl)
        have HTk := Lib.hid (tm_take ht hkl)
        have HTt := Lib.hid ht
        obtain ⟨t0, t1⟩ := t
        simp only [Tm.cells, List.getElem?_cons_zero, List.getElem?_cons_succ, Nat.add_zero] at d0 d1
        have d0 := cell_below hbel d0 hbb
        have d1 := cell_below hbel d1 hbb
        clear ht q1
        by_cases hm : TmMay ⟨t0, t1⟩ (N : Int)
        rotate_left
        · have hr : b = false := by
            rcases HR.out with ⟨h, _⟩ | ⟨_, h⟩
            · exact absurd (h.2.2.2.1 _ HTm.out) hm
            · exact h
          subst hr
          obtain ⟨rr, hrr, hrr'⟩ : ∃ rr : Bool, rr = false ∧ ((TmMay ⟨t0, t1⟩ (N : Int) ∧ rr = true) ∨ (¬ TmMay ⟨t0, t1⟩ (N : Int) ∧ rr = false)) := ⟨false, rfl, Or.inr ⟨hm, rfl⟩⟩
          have HRR := Lib.hid hrr'
          clear hm hrr'
          go_wp2_with fail
          (refine wp_region_noPanic ?_; refine wp_region_held_drew (S := fun w' => w'.cell? ⟨w.heap.size, 0, none⟩ = some (.int .i64 (N : Int)) ∧ w'.cell? ⟨b1, o1 + k * 2, none⟩ = some (.int .i64 t0) ∧ w'.cell? ⟨b1, o1 + k * 2 + 1, none⟩ = some (.int .i64 t1)) (by kernel_rfl) ?q1xb (fun hHeld => ?_); (case q1xb => ((try dsimp only); ((go_split_ands; (try dsimp only); (repeat' apply And.intro); all_goals (repeat (first | with_reducible assumption | (with_reducible refine (cell_set_ne ?_).trans ?_; omega) | (with_reducible refine cell_alloc _ ?_) | (with_reducible refine cell_drew ?_) | (with_reducible refine cell_below' hb2 ?_))))))); refine wpAnyH_take (i := 0) (v := ?q1xv0) (by simp only [List.getElem?_toArray, List.getElem?_cons_zero]; exact rfl) (by kernel_rfl) (by kernel_rfl) (by kernel_rfl) (fun _ _ _ h => h) (Or.inl ⟨by rfl, ?q1xy0⟩) (by assumption) ?_; (case q1xy0 => (intro w hSw; (try dsimp only at hSw); go_simp; (try with_reducible rfl))); (try simp only [Act.put, List.setIfInBounds_toArray, List.set_cons_zero, List.set_cons_succ]); refine wpAnyH_take (i := 1) (v := ?q1xv1) (by simp only [List.getElem?_toArray, List.getElem?_cons_zero, List.getElem?_cons_succ]; exact rfl) (by kernel_rfl) (by kernel_rfl) (by kernel_rfl) (fun _ _ _ h => h) (Or.inl ⟨by rfl, ?q1xy1⟩) (by assumption) ?_; (case q1xy1 => (intro w hSw; (try dsimp only at hSw); go_simp; (try with_reducible rfl))); (try simp only [Act.put, List.setIfInBounds_toArray, List.set_cons_zero, List.set_cons_succ]); refine wpAnyH_take (i := 2) (v := ?q1xv2) (by simp only [List.getElem?_toArray, List.getElem?_cons_zero, List.getElem?_cons_succ]; exact rfl) (by kernel_rfl) (by kernel_rfl) (by kernel_rfl) (fun _ _ _ h => h) (Or.inl ⟨by rfl, ?q1xy2⟩) (by assumption) ?_; (case q1xy2 => (intro w hSw; (try dsimp only at hSw); go_simp; (try with_reducible rfl))); (try simp only [Act.put, List.setIfInBounds_toArray, List.set_cons_zero, List.set_cons_succ]); refine wpAnyH_take (i := 3) (v := ?q1xv3) (by simp only [List.getElem?_toArray, List.getElem?_cons_zero, List.getElem?_cons_succ]; exact rfl) (by kernel_rfl) (by kernel_rfl) (by kernel_rfl) (fun _ _ _ h => h) (Or.inl ⟨by rfl, ?q1xy3⟩) (by assumption) ?_; (case q1xy3 => (intro w hSw; (try dsimp only at hSw); go_simp; (try with_reducible rfl))); (try simp only [Act.put, List.setIfInBounds_toArray, List.set_cons_zero, List.set_cons_succ]); refine wpAnyH_take (i := 4) (v := ?q1xv4) (by simp only [List.getElem?_toArray, List.getElem?_cons_zero, List.getElem?_cons_succ]; exact rfl) (by kernel_rfl) (by kernel_rfl) (by kernel_rfl) (fun _ _ _ h => h) (Or.inl ⟨by rfl, ?q1xy4⟩) (by assumption) ?_; (case q1xy4 => (intro w hSw; (try dsimp only at hSw); go_simp; (try with_reducible rfl))); (try simp only [Act.put, List.setIfInBounds_toArray, List.set_cons_zero, List.set_cons_succ]); refine wpAnyH_take (i := 5) (v := ?q1xv5) (by simp only [List.getElem?_toArray, List.getElem?_cons_zero, List.getElem?_cons_succ]; exact rfl) (by kernel_rfl) (by kernel_rfl) (by kernel_rfl) (fun _ _ _ h => h) (Or.inl ⟨by rfl, ?q1xy5⟩) (by assumption) ?_; (case q1xy5 => (intro w hSw; (try dsimp only at hSw); go_simp; (try with_reducible rfl))); (try simp only [Act.put, List.setIfInBounds_toArray, List.set_cons_zero, List.set_cons_succ]); refine wpAnyH_ready (rs := [6]) (by kernel_rfl) (by simp) ?_; refine AllReadyH.cons (by simp only [List.getElem?_toArray, List.getElem?_cons_zero, List.getElem?_cons_succ]; exact rfl) (fun K hK => ?_) AllReadyH.nil; go_simp; (go_at_call 20; refine (ref_TimerMay ⟨t0, t1⟩ (N : Int) _ hnow.out.1 hnow.out.2 rr HRR.out).mono ?_; rintro e w2 ⟨rfl, hb2⟩); (try go_wp2_with fail); refine hK.out _ _ ?q1xs6 (fun hHeld => ?_); (case q1xs6 => ((try dsimp only); ((go_split_ands; (try dsimp only); (repeat' apply And.intro); all_goals (repeat (first | with_reducible assumption | (with_reducible refine (cell_set_ne ?_).trans ?_; omega) | (with_reducible refine cell_alloc _ ?_) | (with_reducible refine cell_drew ?_) | (with_reducible refine cell_below' hb2 ?_))))))); clear hK K; (try simp only [Act.put, List.setIfInBounds_toArray, List.set_cons_zero, List.set_cons_succ]); refine wpAnyH_take (i := 7) (v := ?q1xv7) (by simp only [List.getElem?_toArray, List.getElem?_cons_zero, List.getElem?_cons_succ]; exact rfl) (by kernel_rfl) (by kernel_rfl) (by kernel_rfl) (fun _ _ _ h => h) (Or.inl ⟨by rfl, ?q1xy7⟩) (by assumption) ?_; (case q1xy7 => (intro w hSw; (try dsimp only at hSw); go_simp; (try with_reducible rfl))); (try simp only [Act.put, List.setIfInBounds_toArray, List.set_cons_zero, List.set_cons_succ]); refine wpAnyH_done (by kernel_rfl) ?_ _; refine NoPanic.normal ?_)
          subst hrr
          have hbD : Below wr.heap.size wr w2 := (Below_drewN (n := 1) (Below.refl wr.heap.size wr)).trans (hb2.mono (by simp))
          go_wp2
          all_goals first | (go_ret; exact ⟨rfl, (HB1.out.trans (HB.out.mono (by have := HB1.out.size; omega))).trans (hbD.mono (by have := HB1.out.size; have := HB.out.size; omega))⟩) | (exfalso; first | omega | (simp at *; omega) | (simp at *; done))
        · obtain ⟨rr, hrr, hrr'⟩ : ∃ rr : Bool, rr = true ∧ ((TmMay ⟨t0, t1⟩ (N : Int) ∧ rr = true) ∨ (¬ TmMay ⟨t0, t1⟩ (N : Int) ∧ rr = false)) := ⟨true, rfl, Or.inl ⟨hm, rfl⟩⟩
          have HRR := Lib.hid hrr'
          have HM := Lib.hid hm
          clear hm hrr'
          go_wp2_with fail
          (refine wp_region_noPanic ?_; refine wp_region_held_drew (S := fun w' => w'.cell? ⟨w.heap.size, 0, none⟩ = some (.int .i64 (N : Int)) ∧ w'.cell? ⟨b1, o1 + k * 2, none⟩ = some (.int .i64 t0) ∧ w'.cell? ⟨b1, o1 + k * 2 + 1, none⟩ = some (.int .i64 t1)) (by kernel_rfl) ?q2xb (fun hHeld => ?_); (case q2xb => ((try dsimp only); ((go_split_ands; (try dsimp only); (repeat' apply And.intro); all_goals (repeat (first | with_reducible assumption | (with_reducible refine (cell_set_ne ?_).trans ?_; omega) | (with_reducible refine cell_alloc _ ?_) | (with_reducible refine cell_drew ?_) | (with_reducible refine cell_below' hb2 ?_))))))); refine wpAnyH_take (i := 0) (v := ?q2xv0) (by simp only [List.getElem?_toArray, List.getElem?_cons_zero]; exact rfl) (by kernel_rfl) (by kernel_rfl) (by kernel_rfl) (fun _ _ _ h => h) (Or.inl ⟨by rfl, ?q2xy0⟩) (by assumption) ?_; (case q2xy0 => (intro w hSw; (try dsimp only at hSw); go_simp; (try with_reducible rfl))); (try simp only [Act.put, List.setIfInBounds_toArray, List.set_cons_zero, List.set_cons_succ]); refine wpAnyH_take (i := 1) (v := ?q2xv1) (by simp only [List.getElem?_toArray, List.getElem?_cons_zero, List.getElem?_cons_succ]; exact rfl) (by kernel_rfl) (by kernel_rfl) (by kernel_rfl) (fun _ _ _ h => h) (Or.inl ⟨by rfl, ?q2xy1⟩) (by assumption) ?_; (case q2xy1 => (intro w hSw; (try dsimp only at hSw); go_simp; (try with_reducible rfl))); (try simp only [Act.put, List.setIfInBounds_toArray, List.set_cons_zero, List.set_cons_succ]); refine wpAnyH_take (i := 2) (v := ?q2xv2) (by simp only [List.getElem?_toArray, List.getElem?_cons_zero, List.getElem?_cons_succ]; exact rfl) (by kernel_rfl) (by kernel_rfl) (by kernel_rfl) (fun _ _ _ h => h) (Or.inl ⟨by rfl, ?q2xy2⟩) (by assumption) ?_; (case q2xy2 => (intro w hSw; (try dsimp only at hSw); go_simp; (try with_reducible rfl))); (try simp only [Act.put, List.setIfInBounds_toArray, List.set_cons_zero, List.set_cons_succ]); refine wpAnyH_take (i := 3) (v := ?q2xv3) (by simp only [List.getElem?_toArray, List.getElem?_cons_zero, List.getElem?_cons_succ]; exact rfl) (by kernel_rfl) (by kernel_rfl) (by kernel_rfl) (fun _ _ _ h => h) (Or.inl ⟨by rfl, ?q2xy3⟩) (by assumption) ?_; (case q2xy3 => (intro w hSw; (try dsimp only at hSw); go_simp; (try with_reducible rfl))); (try simp only [Act.put, List.setIfInBounds_toArray, List.set_cons_zero, List.set_cons_succ]); refine wpAnyH_take (i := 4) (v := ?q2xv4) (by simp only [List.getElem?_toArray, List.getElem?_cons_zero, List.getElem?_cons_succ]; exact rfl) (by kernel_rfl) (by kernel_rfl) (by kernel_rfl) (fun _ _ _ h => h) (Or.inl ⟨by rfl, ?q2xy4⟩) (by assumption) ?_; (case q2xy4 => (intro w hSw; (try dsimp only at hSw); go_simp; (try with_reducible rfl))); (try simp only [Act.put, List.setIfInBounds_toArray, List.set_cons_zero, List.set_cons_succ]); refine wpAnyH_take (i := 5) (v := ?q2xv5) (by simp only [List.getElem?_toArray, List.getElem?_cons_zero, List.getElem?_cons_succ]; exact rfl) (by kernel_rfl) (by kernel_rfl) (by kernel_rfl) (fun _ _ _ h => h) (Or.inl ⟨by rfl, ?q2xy5⟩) (by assumption) ?_; (case q2xy5 => (intro w hSw; (try dsimp only at hSw); go_simp; (try with_reducible rfl))); (try simp only [Act.put, List.setIfInBounds_toArray, List.set_cons_zero, List.set_cons_succ]); refine wpAnyH_ready (rs := [6]) (by kernel_rfl) (by simp) ?_; refine AllReadyH.cons (by simp only [List.getElem?_toArray, List.getElem?_cons_zero, List.getElem?_cons_succ]; exact rfl) (fun K hK => ?_) AllReadyH.nil; go_simp; (go_at_call 20; refine (ref_TimerMay ⟨t0, t1⟩ (N : Int) _ hnow.out.1 hnow.out.2 rr HRR.out).mono ?_; rintro e w2 ⟨rfl, hb2⟩); (try go_wp2_with fail); refine hK.out _ _ ?q2xs6 (fun hHeld => ?_); (case q2xs6 => ((try dsimp only); ((go_split_ands; (try dsimp only); (repeat' apply And.intro); all_goals (repeat (first | with_reducible assumption | (with_reducible refine (cell_set_ne ?_).trans ?_; omega) | (with_reducible refine cell_alloc _ ?_) | (with_reducible refine cell_drew ?_) | (with_reducible refine cell_below' hb2 ?_))))))); clear hK K; (try simp only [Act.put, List.setIfInBounds_toArray, List.set_cons_zero, List.set_cons_succ]); refine wpAnyH_take (i := 7) (v := ?q2xv7) (by simp only [List.getElem?_toArray, List.getElem?_cons_zero, List.getElem?_cons_succ]; exact rfl) (by kernel_rfl) (by kernel_rfl) (by kernel_rfl) (fun _ _ _ h => h) (Or.inl ⟨by rfl, ?q2xy7⟩) (by assumption) ?_; (case q2xy7 => (intro w hSw; (try dsimp only at hSw); go_simp; (try with_reducible rfl))); (try simp only [Act.put, List.setIfInBounds_toArray, List.set_cons_zero, List.set_cons_succ]); refine wpAnyH_done (by kernel_rfl) ?_ _; refine NoPanic.normal ?_)
          subst hrr
          have hbD : Below wr.heap.size wr w2 := (Below_drewN (n := 1) (Below.refl wr.heap.size wr)).trans (hb2.mono (by simp))
          have HB2 := Lib.hid (HB.out.trans (hbD.mono (by have := HB.out.size; omega)))
          have c0 := cell_below' hbD c0
          have c1 := cell_below' hbD c1
          clear hbD hb2 d0 d1
          go_wp2_with fail
          go_loopw [5] (fun i wr2 => ∃ j : Nat, j ≤ k ∧ i = .int .i64 j ∧ (∀ m, m < j → (T.getD m Tm.zero).id ≠ t1) ∧ WmRel w w1 wr2 (N : Int) (.slice a 25 cp)) (fun i _ => k - (intOf i).toNat)
          case atStart => exact ⟨0, Nat.zero_le _, rfl, by simp, HB2.out, c0, c1⟩
          case round =>
            clear HB2 c0 c1 hbel HB
            obtain ⟨j, hj, rfl, hno, hbel, c0, c1⟩ := hrel
            have HB := Lib.hid hbel
            have HNo := Lib.hid hno
            clear hno
            rcases (show j < k ∨ j = k by omega) with hjk | rfl
            · have hjk' : (j : Int) < (k : Int) := by omega
              have hjl' : (j : Int) < (T.length : Int) := by omega
              have p1 : (0 : Int) ≤ (j : Int) := by omega
              obtain ⟨u, hu⟩ : ∃ u, u = T.getD j Tm.zero := ⟨_, rfl⟩
              have d1 := cell_below hbel (Q1.out k 1 hkl (by omega)) hbb
              have x1 := cell_below hbel (Q1.out j 1 (by omega) (by omega)) hbb
              rw [← HTt.out] at d1
              rw [← hu] at x1
              have HU := Lib.hid hu
              obtain ⟨u0, u1⟩ := u
              simp at d1 x1
              clear hu
              by_cases he : u1 = t1
              · have hr : b = false := by
                  rcases HR.out with ⟨h, _⟩ | ⟨_, h⟩
                  · exact absurd h.2.2.2.2.1 (by exact not_nodup_take hjk hkl (by rw [← HTt.out, ← HU.out]; exact he))
                  · exact h
                subst hr
                subst he
                go_wp2_with fail
                go_quiet (fail)
                go_wp2
                all_goals first | (go_ret; exact ⟨rfl, Below_drewN (HB1.out.trans (HB.out.mono (by have := HB1.out.size; omega)))⟩) | (exfalso; first | omega | (simp at *; omega) | (simp at *; done))
              · go_wp2_with fail
                go_quiet (fail)
                go_wp2
                go_roundw
                case measure => simp [intOf]; omega
                case rel =>
                  refine ⟨j + 1, by omega, by go_num, fun m hm => ?_, Below_drewN HB.out, cell_drewN _ c0, cell_drewN _ c1⟩
                  rcases (show m < j ∨ m = j by omega) with h | rfl
                  · exact HNo.out m h
                  · rw [← HU.out]; exact he
            · have hge : ¬ ((j : Nat) : Int) < (j : Int) := by omega
              go_wp2_with fail
              go_roundw
              case measure => simp [intOf]; omega
              case rel =>
                refine ⟨j + 1, by omega, by go_num, fun t ht => ?_, ?_, HB.out, c0, c1⟩
                · rw [HTk.out, List.mem_append, List.mem_singleton] at ht
                  rcases ht with ht | rfl
                  · exact HA.out t ht
                  · exact HM.out
                · rw [HTk.out, tids_snoc, List.nodup_append]
                  refine ⟨HD.out, by simp, fun x hx y hy => ?_⟩
                  rw [List.mem_singleton] at hy
                  obtain ⟨m, hm, rfl⟩ := mem_take_get hx (by omega)
                  rw [hy]; exact HNo.out m hm
      · have hge : ¬ ((T.length : Nat) : Int) < (T.length : Int) := by omega
        rw [List.take_of_length_le (Nat.le_refl _)] at HA HD
        have hN2 : N ≤ 2199023255552 := by omega
        have hz2 := hbel.size
        have RTr := Lib.hid (RowAt_below RT.out HB.out)
        have HRb : Hid ((LL = wheelOf (N : Int) T ∧ b = true) ∨ (¬ LL = wheelOf (N : Int) T ∧ b = false)) := by
          rcases HR.out with ⟨h, hb⟩ | ⟨h, hb⟩
          · exact Or.inl ⟨h.2.2.2.2.2, hb⟩
          · exact Or.inr ⟨fun h' => h ⟨hnow.out, H25.out, h200, HA.out, HD.out, h'⟩, hb⟩
        go_wp2_with (first | (go_at_call 22; refine (ref_WheelOf _ N T _ RTr.out hN2 (fun t ht => by obtain ⟨h1, h2, h3, _⟩ := HA.out t ht; omega) (by omega)).mono ?_; rintro e w3 ⟨v3, rfl, hls, hb3⟩; obtain ⟨a3, c3, rfl⟩ := LsAt_shape hls.at_; have HL3 := Lib.hid hls; obtain ⟨hc3, hf3⟩ := bcell hb3; have c0 := cell_below hb3 c0 (by omega); have c1 := cell_below hb3 c1 (by omega); have hz3 : w.heap.size < w3.heap.size := (by have := hb3.size; omega); have HLS := Lib.hid (LsAt_below (LsAt_below (LsAt_below RL.out HB.out) hb3) ((Below.refl _ _).alloc (Nat.le_refl _) (.cells #[.int .i64 (N : Int), .slice a3 (wheelOf (N : Int) T).length c3] 24))); have HL4 := Lib.hid (LsAt_below HL3.out.at_ ((Below.refl _ _).alloc (Nat.le_refl _) (.cells #[.int .i64 (N : Int), .slice a3 (wheelOf (N : Int) T).length c3] 24))); clear hls) | (go_at_call 9; refine (sameWhN _ _ (N : Int) LL (wheelOf (N : Int) T) _ HLS.out HL4.out b HRb.out).mono ?_; rintro e w5 ⟨rfl, hb5⟩; obtain ⟨hc5, hf5⟩ := bcell hb5))
        have hB3 : Below w.heap.size w w3 := (HB1.out.trans (HB.out.mono (by have := HB1.out.size; omega))).trans (hb3.mono (by have := HB1.out.size; have := HB.out.size; omega))
        have hB5 : Below w.heap.size w w5 := (hB3.alloc (by have := hB3.size; omega) (.cells #[.int .i64 (N : Int), .slice a3 (wheelOf (N : Int) T).length c3] 24)).trans (hb5.mono (by simp; have := hB3.size; omega))
        all_goals first | (go_ret; exact ⟨rfl, hB5⟩) | (exfalso; first | omega | (simp at *; omega) | (simp at *; done))
end Go.Proofs.Ythgfiadfpgfjdaa
