/- usherref.Armed. -/
import Derived.Test.YthgfiadfpgfjdaaWhAr
import Derived.Test.YthgfiadfpgfjdaaWhCr
namespace Go.Proofs.Ythgfiadfpgfjdaa
open Go.RowKit
theorem in_get {T : List Tm} {k : Nat} {t : Tm} (ht : t = T.getD k Tm.zero) (h : k < T.length) : T[k]? = some t := by
  rw [ht, List.getD_eq_getElem?_getD, List.getElem?_eq_getElem h]; rfl
set_option maxHeartbeats 4000000 in
set_option maxRecDepth 100000 in
theorem ref_Armed (lv : Value) (now : Int) (LL : List (List Tm)) (id at_ : Int) (w : World) (r : LsAt w lv LL) (hs : LL.flatten.length ≤ 1048576) (now' : Int) (LL' : List (List Tm)) (c : Int) (ha : ArmAns now LL ⟨at_, id⟩ now' LL' c) :
    Calls Try.prog 8 #[.agg #[.int .i64 now, lv], .int .i64 id, .int .i64 at_] w (WhAns w now' LL' c) := by
  obtain ⟨a, cp, rfl⟩ := LsAt_shape r
  have R2 := Lib.hid (LsAt_below r ((Below.alloc (Below.refl _ _) (Nat.le_refl _) (.cells #[.int .i64 now, .slice a LL.length cp] 24)).alloc (by simp) (.cells #[.int .i64 0, .slice none 0 0] 24)))
  have HA := Lib.hid ha
  clear r ha
  obtain ⟨T, hT⟩ : ∃ T, T = LL.flatten := ⟨_, rfl⟩
  by_cases hm : WhMay now LL
  rotate_left
  · obtain ⟨rfl, rfl, rfl⟩ := HA.out.no hm
    obtain ⟨b, hb, hbm⟩ : ∃ b : Bool, b = false ∧ ((WhMay now LL ∧ b = true) ∨ (¬ WhMay now LL ∧ b = false)) := ⟨false, rfl, Or.inr ⟨hm, rfl⟩⟩
    have HBM := Lib.hid hbm
    clear hbm hm
    go_enter Try.func8, Try.ntmps8
    go_wp2_with (go_at_call 19; refine (ref_WheelMay _ now LL _ R2.out hs b HBM.out).mono ?_; rintro e w1 ⟨rfl, hb1⟩; obtain ⟨hc1, hf1⟩ := bcell hb1)
    subst hb
    go_wp2
    refine bodyPost_ret (v := .tuple #[.agg #[.int .i64 0, .slice none 0 0], .int .i64 6]) ?_ rfl (WhAns.nil (by repeat (first | (with_reducible exact Below.refl _ _) | (with_reducible assumption) | (with_reducible refine Below.drew ?_) | (with_reducible refine Below_drewN ?_) | (with_reducible refine Below.alloc ?_ (by first | omega | (simp; done) | (simp; omega)) _) | (with_reducible refine Below.setCell ?_ (by first | omega | (simp; done) | (simp; omega)) _) | (with_reducible refine Below.trans ?_ (Below.mono (by assumption) (by first | omega | (simp; done) | (simp; omega)))))))
    simp [results, Try.results8, go_sem, *]
  · have HM := Lib.hid hm
    have HSz := Lib.hid hs
    have HT := Lib.hid hT
    have hT2 : T.length ≤ 200 := by rw [hT]; exact hm.tot
    have h0 := hm.1
    have h1 := hm.2.1
    obtain ⟨i0, hi, hi0, hi1, hi2⟩ := info_parts infoc_Tm
    clear hm hs hT
    by_cases htm : TmMay ⟨at_, id⟩ now
    rotate_left
    · obtain ⟨rfl, rfl, rfl⟩ := HA.out.range HM.out htm
      have HF := Lib.hid htm
      clear htm
      go_enter Try.func8, Try.ntmps8
      go_wp2_with (first | (go_at_call 19; refine (ref_WheelMay _ now LL _ R2.out HSz.out true (Or.inl ⟨HM.out, rfl⟩)).mono ?_; rintro e w1 ⟨rfl, hb1⟩; obtain ⟨hc1, hf1⟩ := bcell hb1; have hz1 := hb1.size; simp at hz1; have k1 : w.heap.size < w1.heap.size := (by omega); have k2 : w.heap.size + 1 < w1.heap.size := (by omega)) | (go_at_call 20; refine (ref_TimerMay ⟨at_, id⟩ now _ h0 h1 false (Or.inr ⟨HF.out, rfl⟩)).mono ?_; rintro e w2 ⟨rfl, hb2⟩; obtain ⟨hc2, hf2⟩ := bcell hb2))
      refine bodyPost_ret (v := .tuple #[.agg #[.int .i64 0, .slice none 0 0], .int .i64 2]) ?_ rfl (WhAns.nil ?_)
      · simp [results, Try.results8, go_sem, *]
      · have B1 : Below w.heap.size w w1 := Below.trans ((by repeat (first | (with_reducible exact Below.refl _ _) | (with_reducible assumption) | (with_reducible refine Below.drew ?_) | (with_reducible refine Below_drewN ?_) | (with_reducible refine Below.alloc ?_ (by first | omega | (simp; done) | (simp; omega)) _) | (with_reducible refine Below.setCell ?_ (by first | omega | (simp; done) | (simp; omega)) _) | (with_reducible refine Below.trans ?_ (Below.mono (by assumption) (by first | omega | (simp; done) | (simp; omega)))))) : Below w.heap.size w _) (hb1.mono (by simp; omega))
        exact ((B1.trans (hb2.mono B1.size)).setCell (by simp) _).setCell (by simp) _
    · have HF := Lib.hid htm
      clear htm
      go_enter Try.func8, Try.ntmps8
      go_wp2_with (first | (go_at_call 19; refine (ref_WheelMay _ now LL _ R2.out HSz.out true (Or.inl ⟨HM.out, rfl⟩)).mono ?_; rintro e w1 ⟨rfl, hb1⟩; obtain ⟨hc1, hf1⟩ := bcell hb1; have hz1 := hb1.size; simp at hz1; have k1 : w.heap.size < w1.heap.size := (by omega); have k2 : w.heap.size + 1 < w1.heap.size := (by omega)) | (go_at_call 20; refine (ref_TimerMay ⟨at_, id⟩ now _ h0 h1 true (Or.inl ⟨HF.out, rfl⟩)).mono ?_; rintro e w2 ⟨rfl, hb2⟩; obtain ⟨hc2, hf2⟩ := bcell hb2; have hz2 := hb2.size; have k3 : w.heap.size < w2.heap.size := (by omega); have k4 : w.heap.size + 1 < w2.heap.size := (by omega)) | (go_at_call 21; refine (ref_TimersOfT _ now LL T _ (LsAt_below (LsAt_below R2.out hb1) hb2) HT.out (by omega)).mono ?_; rintro e w3 ⟨v3, rfl, hown3, hb3⟩; obtain ⟨hc3, hf3⟩ := bcell hb3; obtain ⟨av, cv, rfl, _⟩ := owns_shape hown3; have HO3 := Lib.hid hown3; clear hown3))
      have g0 : w3.cell? ⟨w.heap.size, 0, none⟩ = some (.int .i64 now) := cell_below hb3 (cell_below hb2 (cell_below hb1 (by go_simp) (by simp; omega)) (by omega)) (by omega)
      have g1 : w3.cell? ⟨w.heap.size + 1, 0, none⟩ = some (.int .i64 0) := cell_below hb3 (cell_below hb2 (cell_below hb1 (by go_simp) (by simp)) (by omega)) (by omega)
      have g2 : w3.cell? ⟨w.heap.size + 1, 1, none⟩ = some (.slice none 0 0) := cell_below hb3 (cell_below hb2 (cell_below hb1 (by go_simp) (by simp)) (by omega)) (by omega)
      have g3 : ∀ n, w3.frozen? ⟨w.heap.size + 1, n, none⟩ = false := fun n => (hb3.frozen (p := ⟨w.heap.size + 1, n, none⟩) (by simp; omega)).trans ((hb2.frozen (p := ⟨w.heap.size + 1, n, none⟩) (by simp; omega)).trans ((hb1.frozen (p := ⟨w.heap.size + 1, n, none⟩) (by simp)).trans (by go_simp)))
      have B1 : Below w.heap.size w w1 := Below.trans ((by repeat (first | (with_reducible exact Below.refl _ _) | (with_reducible assumption) | (with_reducible refine Below.drew ?_) | (with_reducible refine Below_drewN ?_) | (with_reducible refine Below.alloc ?_ (by first | omega | (simp; done) | (simp; omega)) _) | (with_reducible refine Below.setCell ?_ (by first | omega | (simp; done) | (simp; omega)) _) | (with_reducible refine Below.trans ?_ (Below.mono (by assumption) (by first | omega | (simp; done) | (simp; omega)))))) : Below w.heap.size w _) (hb1.mono (by simp; omega))
      have hz3 := hb3.size
      have HB3 : Hid (Below w.heap.size w w3) := (B1.trans (hb2.mono B1.size)).trans (hb3.mono (by omega))
      clear hb1 hb2 hb3 hc1 hf1 hc2 hf2 hc3 hf3 B1
      have RT := Lib.hid (RowNew_of_owns HO3.out (by rw [List.length_map]) (lenc_Tm _)).1
      obtain ⟨_, _, e0, lt, mt, _, pt⟩ := RowAt_fn Tm.zero RT.out
      injection e0 with e01 _ e03
      subst e01; subst e03
      have PT := Lib.hid pt
      clear pt
      go_loopw [9] (fun i wr => ∃ k : Nat, k ≤ T.length ∧ i = .int .i64 k ∧ (∀ t ∈ T.take k, ¬ t.id = id) ∧ Below w3.heap.size w3 wr) (fun i _ => T.length - (intOf i).toNat)
      case atStart => exact ⟨0, Nat.zero_le _, rfl, by simp, Below.refl _ _⟩
      case round =>
        obtain ⟨k, hk, rfl, hall, hbel⟩ := hrel
        have HB := Lib.hid hbel
        have HAl := Lib.hid hall
        have hz4 := hbel.size
        clear hall
        rcases (show k < T.length ∨ k = T.length by omega) with hkl | rfl
        · have hkl' : (k : Int) < (T.length : Int) := by omega
          have p0 : (0 : Int) ≤ (k : Int) := by omega
          obtain ⟨b1, o1, rfl, hbb, q1⟩ := PT.out (by intro h; rw [h] at hkl; simp at hkl)
          obtain ⟨t, ht⟩ : ∃ t, t = T.getD k Tm.zero := ⟨_, rfl⟩
          have d1 := q1 k 1 hkl (by omega)
          rw [← ht] at d1
          have HTk := Lib.hid (tm_take ht hkl)
          have HTm := Lib.hid (tm_mem ht hkl)
          obtain ⟨t0, t1⟩ := t
          simp only [Tm.cells, List.getElem?_cons_zero, List.getElem?_cons_succ] at d1
          have d1 := cell_below hbel d1 hbb
          have y1 := cell_below hbel g1 (by omega)
          have y2 := cell_below hbel g2 (by omega)
          have f0 : ∀ n, wr.frozen? ⟨w.heap.size + 1, n, none⟩ = false := fun n => (hbel.frozen (p := ⟨w.heap.size + 1, n, none⟩) (by simp; omega)).trans (g3 n)
          have HBw := Lib.hid (HB3.out.trans (HB.out.mono HB3.out.size))
          clear ht q1 hbel
          by_cases he : t1 = id
          · obtain ⟨rfl, rfl, rfl⟩ := HA.out.twice HM.out HF.out ⟨_, by rw [← HT.out]; exact HTm.out, he⟩
            subst he
            go_wp2_with fail
            refine bodyPost_ret (v := .tuple #[.agg #[.int .i64 0, .slice none 0 0], .int .i64 7]) ?_ rfl (WhAns.nil ((HBw.out.setCell (by simp) _).setCell (by simp) _))
            simp [results, Try.results8, go_sem, *]
          · go_wp2_with fail
            go_roundw
            case rel =>
              refine ⟨k + 1, by omega, by go_num, fun t ht => ?_, HB.out⟩
              rw [HTk.out, List.mem_append, List.mem_singleton] at ht
              rcases ht with ht | rfl
              · exact HAl.out t ht
              · exact he
            case measure => simp [intOf]; omega
        · have hge : ¬ ((T.length : Nat) : Int) < (T.length : Int) := by omega
          have y0 := cell_below hbel g0 (by omega)
          have y1 := cell_below hbel g1 (by omega)
          have y2 := cell_below hbel g2 (by omega)
          have f0 : ∀ n, wr.frozen? ⟨w.heap.size + 1, n, none⟩ = false := fun n => (hbel.frozen (p := ⟨w.heap.size + 1, n, none⟩) (by simp; omega)).trans (g3 n)
          have HBw := Lib.hid (HB3.out.trans (HB.out.mono HB3.out.size))
          have HO := Lib.hid (own_keep HO3.out HB.out)
          rw [List.take_length] at HAl
          obtain ⟨rfl, rfl, rfl⟩ := HA.out.yes HM.out HF.out (by rw [← HT.out]; exact HAl.out)
          rw [← HT.out]
          obtain ⟨N, rfl⟩ := Int.eq_ofNat_of_zero_le h0
          have hN2 : N ≤ 2199023255552 := by omega
          obtain ⟨X, hX⟩ : ∃ X, X = T ++ [⟨at_, id⟩] := ⟨_, rfl⟩
          have hXl : X.length ≤ 201 := by rw [hX]; simp; omega
          have hXm : ∀ t ∈ X, 0 ≤ t.at_ ∧ t.at_ ≤ 2199023255552 := by
            intro t ht
            rw [hX, List.mem_append, List.mem_singleton] at ht
            have h2 : TmMay t (N : Int) := by
              rcases ht with ht | rfl
              · exact HM.out.tm t (by rw [← HT.out]; exact ht)
              · exact HF.out
            obtain ⟨h4, h5, h6, _⟩ := h2
            omega
          have HXm := Lib.hid hXm
          have HX := Lib.hid hX
          rw [← hX]
          clear hX hXm
          go_wp2_with fail
          (refine wp_region_noPanic ?_; refine wp_region_held_drew (S := fun w' : World => w'.cell? ⟨w.heap.size, 0, none⟩ = some (.int .i64 (N : Int))) (by kernel_rfl) ?q1xb (fun hHeld => ?_); (case q1xb => ((try dsimp only); ((go_split_ands; (try dsimp only); (repeat' apply And.intro); all_goals (repeat (first | with_reducible assumption | (with_reducible refine (cell_set_ne ?_).trans ?_; omega) | (with_reducible refine cell_alloc _ ?_) | (with_reducible refine cell_drew ?_) | (with_reducible refine cell_drewN _ ?_))))))); refine wpAnyH_take (i := 0) (v := ?q1x1nv0) (by simp only [List.getElem?_toArray, List.getElem?_cons_zero]; exact rfl) (by kernel_rfl) (by kernel_rfl) (by kernel_rfl) (fun _ _ _ h => h) (Or.inl ⟨by rfl, ?q1x1ny0⟩) (by assumption) ?_; (case q1x1ny0 => (intro w hSw; (try dsimp only at hSw); go_simp; (try with_reducible rfl))); (try simp only [Act.put, List.setIfInBounds_toArray, List.set_cons_zero, List.set_cons_succ]); refine wpAnyH_take (i := 1) (v := ?q1x1nv1) (by simp only [List.getElem?_toArray, List.getElem?_cons_zero, List.getElem?_cons_succ]; exact rfl) (by kernel_rfl) (by kernel_rfl) (by kernel_rfl) (fun _ _ _ h => h) (Or.inl ⟨by rfl, ?q1x1ny1⟩) (by assumption) ?_; (case q1x1ny1 => (intro w hSw; (try dsimp only at hSw); go_simp; (try with_reducible rfl))); (try simp only [Act.put, List.setIfInBounds_toArray, List.set_cons_zero, List.set_cons_succ]); refine wpAnyH_take (i := 2) (v := ?q1x1nv2) (by simp only [List.getElem?_toArray, List.getElem?_cons_zero, List.getElem?_cons_succ]; exact rfl) (by kernel_rfl) (by kernel_rfl) (by kernel_rfl) (fun _ _ _ h => h) (Or.inl ⟨by rfl, ?q1x1ny2⟩) (by assumption) ?_; (case q1x1ny2 => (intro w hSw; (try dsimp only at hSw); go_simp; (try with_reducible rfl))); (try simp only [Act.put, List.setIfInBounds_toArray, List.set_cons_zero, List.set_cons_succ]); refine wpAnyH_take (i := 3) (v := ?q1x1nv3) (by simp only [List.getElem?_toArray, List.getElem?_cons_zero, List.getElem?_cons_succ]; exact rfl) (by kernel_rfl) (by kernel_rfl) (by kernel_rfl) (fun _ _ _ h => h) (Or.inl ⟨by rfl, ?q1x1ny3⟩) (by assumption) ?_; (case q1x1ny3 => (intro w hSw; (try dsimp only at hSw); go_simp; (try with_reducible rfl))); (try simp only [Act.put, List.setIfInBounds_toArray, List.set_cons_zero, List.set_cons_succ]); refine wpAnyH_take (i := 4) (v := ?q1x1nv4) (by simp only [List.getElem?_toArray, List.getElem?_cons_zero, List.getElem?_cons_succ]; exact rfl) (by kernel_rfl) (by kernel_rfl) (by kernel_rfl) (fun _ _ _ h => h) (Or.inl ⟨by rfl, ?q1x1ny4⟩) (by assumption) ?_; (case q1x1ny4 => (intro w hSw; (try dsimp only at hSw); go_simp; (try with_reducible rfl))); (try simp only [Act.put, List.setIfInBounds_toArray, List.set_cons_zero, List.set_cons_succ]); refine wpAnyH_take (i := 5) (v := ?q1x1nv5) (by simp only [List.getElem?_toArray, List.getElem?_cons_zero, List.getElem?_cons_succ]; exact rfl) (by kernel_rfl) (by kernel_rfl) (by kernel_rfl) (fun _ _ _ h => h) (Or.inl ⟨by rfl, ?q1x1ny5⟩) (by assumption) ?_; (case q1x1ny5 => (intro w hSw; (try dsimp only at hSw); go_simp; (try with_reducible rfl))); (try simp only [Act.put, List.setIfInBounds_toArray, List.set_cons_zero, List.set_cons_succ]); refine wpAnyH_ready (rs := [6]) (by kernel_rfl) (by simp) ?_; refine AllReadyH.cons (by simp only [List.getElem?_toArray, List.getElem?_cons_zero, List.getElem?_cons_succ]; exact rfl) (fun K hK => ?_) AllReadyH.nil; go_simp; refine hK.out _ _ ?q1x1ns6 (fun hHeld => ?_); (case q1x1ns6 => ((try dsimp only); ((go_split_ands; (try dsimp only); (repeat' apply And.intro); all_goals (repeat (first | with_reducible assumption | (with_reducible refine (cell_set_ne ?_).trans ?_; omega) | (with_reducible refine cell_alloc _ ?_) | (with_reducible refine cell_drew ?_) | (with_reducible refine cell_drewN _ ?_))))))); clear hK K; (try simp only [Act.put, List.setIfInBounds_toArray, List.set_cons_zero, List.set_cons_succ]); refine wpAnyH_ready (rs := [7]) (by kernel_rfl) (by simp) ?_; refine AllReadyH.cons (by simp only [List.getElem?_toArray, List.getElem?_cons_zero, List.getElem?_cons_succ]; exact rfl) (fun K hK => ?_) AllReadyH.nil; rw [if_pos (by rfl)]; (refine wp_append_own _ _ _ 38 rfl w2.heap.size 43 i0 (.agg #[.int .i64 0, .int .i64 0]) 2 16 Try.underlying38 hi hi0 hi1 hi2 rfl (by decide) _ _ _ rfl (own_keep HO.out (Below.drew ((Below.refl wr.heap.size wr).alloc (Nat.le_refl _) _))) ⟨wr.heap.size, 0, none⟩ 1 1 (Tm.cells ⟨at_, id⟩) rfl rfl (fun j u h => news_lit (w := wr) rfl _ 43 j u h) (tm_one _) (by unfold maxLen; omega) (by omega) (by simp; omega) ?_; intro v6 w6 hown6 hgr6 _; have hb6 : Below w2.heap.size (wr.alloc (.cells #[.int .i64 at_, .int .i64 id] 43)).drew w6 := grown_below (B := w2.heap.size) (Below.refl _ _) (by simp; omega) (own_keep HO.out (Below.drew ((Below.refl wr.heap.size wr).alloc (Nat.le_refl _) _))) hgr6; have B6 := Lib.hid ((Below.drew (HBw.out.alloc (by omega) _)).trans (hb6.mono (by omega))); have z0 : w6.cell? ⟨w.heap.size, 0, none⟩ = some (.int .i64 (N : Int)) := (hb6.cell (p := ⟨w.heap.size, 0, none⟩) (by first | omega | (simp; done) | (simp; omega))).trans (cell_alloc (w := wr) _ y0); have y1 := (hb6.cell (p := ⟨w.heap.size + 1, 0, none⟩) (by first | omega | (simp; done) | (simp; omega))).trans (cell_alloc (w := wr) _ y1); have y2 := (hb6.cell (p := ⟨w.heap.size + 1, 1, none⟩) (by first | omega | (simp; done) | (simp; omega))).trans (cell_alloc (w := wr) _ y2); have f6 : ∀ n, w6.frozen? ⟨w.heap.size + 1, n, none⟩ = false := (fun n => (hb6.frozen (p := ⟨w.heap.size + 1, n, none⟩) (by first | omega | (simp; done) | (simp; omega))).trans (((Below.drew ((Below.refl wr.heap.size wr).alloc (Nat.le_refl _) _)).frozen (p := ⟨w.heap.size + 1, n, none⟩) (by first | omega | (simp; done) | (simp; omega))).trans (f0 n))); have RX : RowAt w6 2 v6 (X.map Tm.cells) := (by rw [HX.out]; refine (RowNew_of_owns (base := w2.heap.size) (e := 43) (n := T.length + 1) ?_ (by simp) (lenc_Tm _)).1; rw [List.map_append, List.flatten_append]; simpa using hown6); obtain ⟨a6, c6, rfl, _⟩ := owns_shape hown6; have RXh := Lib.hid RX; have s6 := hgr6.size; simp at s6; clear hown6 hgr6 hb6 RX); refine hK.out _ _ ?q1x1ns7 (fun hHeld => ?_); (case q1x1ns7 => ((try dsimp only); ((go_split_ands; (try dsimp only); (repeat' apply And.intro); all_goals (repeat (first | with_reducible assumption | (with_reducible refine (cell_set_ne ?_).trans ?_; omega) | (with_reducible refine cell_alloc _ ?_) | (with_reducible refine cell_drew ?_) | (with_reducible refine cell_drewN _ ?_))))))); clear hK K; (try simp only [Act.put, List.setIfInBounds_toArray, List.set_cons_zero, List.set_cons_succ]); refine wpAnyH_ready (rs := [8]) (by kernel_rfl) (by simp) ?_; refine AllReadyH.cons (by simp only [List.getElem?_toArray, List.getElem?_cons_zero, List.getElem?_cons_succ]; exact rfl) (fun K hK => ?_) AllReadyH.nil; go_simp; (go_at_call 22; refine (ref_WheelOf _ N X _ RXh.out hN2 HXm.out (by omega)).mono ?_; rintro e w7 ⟨v7, rfl, hls, hb7⟩; obtain ⟨a7, c7, rfl⟩ := LsAt_shape hls.at_; have HL7 := Lib.hid hls; have z0 := cell_below hb7 z0 (by omega); have y1 := cell_below hb7 y1 (by omega); have y2 := cell_below hb7 y2 (by omega); have f7 : ∀ n, w7.frozen? ⟨w.heap.size + 1, n, none⟩ = false := (fun n => (hb7.frozen (p := ⟨w.heap.size + 1, n, none⟩) (by simp; omega)).trans (f6 n)); have HB7 := Lib.hid hb7; clear hls hb7); (try go_wp2_with fail); refine hK.out _ _ ?q1x1ns8 (fun hHeld => ?_); (case q1x1ns8 => ((try dsimp only); ((go_split_ands; (try dsimp only); (repeat' apply And.intro); all_goals (repeat (first | with_reducible assumption | (with_reducible refine (cell_set_ne ?_).trans ?_; omega) | (with_reducible refine cell_alloc _ ?_) | (with_reducible refine cell_drew ?_) | (with_reducible refine cell_drewN _ ?_))))))); clear hK K; (try simp only [Act.put, List.setIfInBounds_toArray, List.set_cons_zero, List.set_cons_succ]); refine wpAnyH_ready (rs := [9]) (by kernel_rfl) (by simp) ?_; refine AllReadyH.cons (by simp only [List.getElem?_toArray, List.getElem?_cons_zero, List.getElem?_cons_succ]; exact rfl) (fun K hK => ?_) AllReadyH.nil; go_simp; refine hK.out _ _ ?q1x1ns9 (fun hHeld => ?_); (case q1x1ns9 => ((try dsimp only); ((go_split_ands; (try dsimp only); (repeat' apply And.intro); all_goals (repeat (first | with_reducible assumption | (with_reducible refine (cell_set_ne ?_).trans ?_; omega) | (with_reducible refine cell_alloc _ ?_) | (with_reducible refine cell_drew ?_) | (with_reducible refine cell_drewN _ ?_))))))); clear hK K; (try simp only [Act.put, List.setIfInBounds_toArray, List.set_cons_zero, List.set_cons_succ]); refine wpAnyH_take (i := 10) (v := ?q1x1nv10) (by simp only [List.getElem?_toArray, List.getElem?_cons_zero, List.getElem?_cons_succ]; exact rfl) (by kernel_rfl) (by kernel_rfl) (by kernel_rfl) (fun _ _ _ h => h) (Or.inl ⟨by rfl, ?q1x1ny10⟩) (by assumption) ?_; (case q1x1ny10 => (intro w hSw; (try dsimp only at hSw); go_simp; (try with_reducible rfl))); (try simp only [Act.put, List.setIfInBounds_toArray, List.set_cons_zero, List.set_cons_succ]); refine wpAnyH_done (by kernel_rfl) ?_ _; refine NoPanic.normal ?_)
          have B8 := Lib.hid (B6.out.trans (HB7.out.mono (by omega)))
          go_wp2_with fail
          refine bodyPost_ret (v := .tuple #[.agg #[.int .i64 (N : Int), .slice a7 (wheelOf (N : Int) X).length c7], .int .i64 0]) ?_ rfl ⟨_, rfl, ?_, (B8.out.setCell (by simp) _).setCell (by simp) _⟩
          · simp [results, Try.results8, go_sem, *]
          · rw [← HT.out, ← HX.out]; exact LsNew_mono (LsNew_setCell (p := ⟨w.heap.size + 1, 1, none⟩) (LsNew_setCell (p := ⟨w.heap.size + 1, 0, none⟩) HL7.out (by show w.heap.size + 1 < _; omega) _) (by show w.heap.size + 1 < _; omega) _) (by omega)
end Go.Proofs.Ythgfiadfpgfjdaa
