/- usherref.Cancelled. -/
import Derived.Test.YthgfiadfpgfjdaaWhCa
namespace Go.Proofs.Ythgfiadfpgfjdaa
open Go.RowKit
theorem LsNew_setCell {B : Nat} {w : World} {v : Value} {LL : List (List Tm)} (h : LsNew B w v LL) {p : Addr} (hp : p.block < B) (u : Value) : LsNew B (w.setCell p u) v LL := by
  obtain ⟨V, h1, h2, h3⟩ := h
  exact ⟨V, h1, RowNew_setCell h2 hp u, fun i hi => RowNew_setCell (h3 i hi) hp u⟩
/-- What is left of the first k. -/
def cnF (id : Int) (T : List Tm) (k : Nat) : List Tm := (T.take k).filter fun t => !(t.id == id)
set_option maxHeartbeats 4000000 in
set_option maxRecDepth 100000 in
theorem ref_Cancelled (lv : Value) (now : Int) (LL : List (List Tm)) (id : Int) (w : World) (r : LsAt w lv LL) (hs : LL.flatten.length ≤ 1048576) (now' : Int) (LL' : List (List Tm)) (c : Int) (ha : CanAns now LL id now' LL' c) :
    Calls Try.prog 11 #[.agg #[.int .i64 now, lv], .int .i64 id] w (WhAns w now' LL' c) := by
  obtain ⟨a, cp, rfl⟩ := LsAt_shape r
  have R2 := Lib.hid (LsAt_below r ((Below.alloc (Below.refl _ _) (Nat.le_refl _) (.cells #[.int .i64 now, .slice a LL.length cp] 24)).alloc (by simp) (.cells #[.int .i64 0, .slice none 0 0] 24)))
  have HA := Lib.hid ha
  clear r ha
  obtain ⟨T, hT⟩ : ∃ T, T = LL.flatten := ⟨_, rfl⟩
  by_cases hm : WhMay now LL
  rotate_left
  · obtain ⟨rfl, rfl, rfl⟩ := HA.out.no hm
    obtain ⟨b, hb, hbm⟩ : ∃ b : Bool, b = false ∧ ((WhMay now LL ∧ b = true) ∨ (¬ WhMay now LL ∧ b = false)) := ⟨false, rfl, Or.inr ⟨hm, rfl⟩⟩
    have HBM := Lib.hid hbm
    clear hbm hm
    go_enter Try.func11, Try.ntmps11
    go_wp2_with (go_at_call 19; refine (ref_WheelMay _ now LL _ R2.out hs b HBM.out).mono ?_; rintro e w1 ⟨rfl, hb1⟩; obtain ⟨hc1, hf1⟩ := bcell hb1)
    subst hb
    go_wp2
    refine bodyPost_ret (v := .tuple #[.agg #[.int .i64 0, .slice none 0 0], .int .i64 6]) ?_ rfl (WhAns.nil (by repeat (first | (with_reducible exact Below.refl _ _) | (with_reducible assumption) | (with_reducible refine Below.drew ?_) | (with_reducible refine Below_drewN ?_) | (with_reducible refine Below.alloc ?_ (by first | omega | (simp; done) | (simp; omega)) _) | (with_reducible refine Below.setCell ?_ (by first | omega | (simp; done) | (simp; omega)) _) | (with_reducible refine Below.trans ?_ (Below.mono (by assumption) (by first | omega | (simp; done) | (simp; omega)))))))
    simp [results, Try.results11, go_sem, *]
  · have HM := Lib.hid hm
    have HSz := Lib.hid hs
    have HT := Lib.hid hT
    have hT2 : T.length ≤ 200 := by rw [hT]; exact hm.tot
    obtain ⟨i0, hi, hi0, hi1, hi2⟩ := info_parts infoc_Tm
    clear hm hs hT
    go_enter Try.func11, Try.ntmps11
    go_wp2_with (first | (go_at_call 19; refine (ref_WheelMay _ now LL _ R2.out HSz.out true (Or.inl ⟨HM.out, rfl⟩)).mono ?_; rintro e w1 ⟨rfl, hb1⟩; obtain ⟨hc1, hf1⟩ := bcell hb1) | (go_at_call 21; refine (ref_TimersOfT _ now LL T _ (LsAt_below R2.out hb1) HT.out (by omega)).mono ?_; rintro e w2 ⟨v2, rfl, hown2, hb2⟩; obtain ⟨hc2, hf2⟩ := bcell hb2; obtain ⟨av, cv, rfl, _⟩ := owns_shape hown2; have HO2 := Lib.hid hown2; clear hown2))
    have hz1 := hb1.size
    have hz0 := hb2.size
    simp at hz1
    have g0 : w2.cell? ⟨w.heap.size, 0, none⟩ = some (.int .i64 now) := cell_below hb2 (cell_below hb1 (by go_simp) (by simp; omega)) (by omega)
    have g1 : w2.cell? ⟨w.heap.size + 1, 0, none⟩ = some (.int .i64 0) := cell_below hb2 (cell_below hb1 (by go_simp) (by simp)) (by omega)
    have g2 : w2.cell? ⟨w.heap.size + 1, 1, none⟩ = some (.slice none 0 0) := cell_below hb2 (cell_below hb1 (by go_simp) (by simp)) (by omega)
    have g3 : ∀ n, w2.frozen? ⟨w.heap.size + 1, n, none⟩ = false := fun n => (hb2.frozen (p := ⟨w.heap.size + 1, n, none⟩) (by simp; omega)).trans ((hb1.frozen (p := ⟨w.heap.size + 1, n, none⟩) (by simp)).trans (by go_simp))
    have HB2 : Hid (Below w.heap.size w w2) := (Below.trans ((by repeat (first | (with_reducible exact Below.refl _ _) | (with_reducible assumption) | (with_reducible refine Below.drew ?_) | (with_reducible refine Below_drewN ?_) | (with_reducible refine Below.alloc ?_ (by first | omega | (simp; done) | (simp; omega)) _) | (with_reducible refine Below.setCell ?_ (by first | omega | (simp; done) | (simp; omega)) _) | (with_reducible refine Below.trans ?_ (Below.mono (by assumption) (by first | omega | (simp; done) | (simp; omega)))))) : Below w.heap.size w _) (hb1.mono (by simp; omega))).trans (hb2.mono (by omega))
    clear hb1 hb2 hc1 hf1 hc2 hf2
    have RT := Lib.hid (RowNew_of_owns HO2.out (by rw [List.length_map]) (lenc_Tm _)).1
    obtain ⟨_, _, e0, lt, mt, _, pt⟩ := RowAt_fn Tm.zero RT.out
    injection e0 with e01 _ e03
    subst e01; subst e03
    have PT := Lib.hid pt
    clear pt HO2
    go_loopw [7, 8] (fun l i wr => ∃ k : Nat, k ≤ T.length ∧ i = .int .i64 k ∧ Below w2.heap.size w2 wr ∧ wr.ownsRow w2.heap.size 43 2 l (cnF id T k).length ((cnF id T k).map Tm.cells).flatten) (fun _ i _ => T.length - (intOf i).toNat)
    case atStart => exact ⟨0, Nat.zero_le _, rfl, Below.refl _ _, by simpa [cnF] using World.ownsRow_nil _ _ _ _⟩
    case round =>
      obtain ⟨k, hk, rfl, hbel, hown⟩ := hrel
      obtain ⟨ax, cx, rfl, _⟩ := owns_shape hown
      have HB := Lib.hid hbel
      have HO := Lib.hid hown
      have hz2 := hbel.size
      clear hown
      rcases (show k < T.length ∨ k = T.length by omega) with hkl | rfl
      · have hkl' : (k : Int) < (T.length : Int) := by omega
        have p0 : (0 : Int) ≤ (k : Int) := by omega
        obtain ⟨b1, o1, rfl, hbb, q1⟩ := PT.out (by intro h; rw [h] at hkl; simp at hkl)
        obtain ⟨t, ht⟩ : ∃ t, t = T.getD k Tm.zero := ⟨_, rfl⟩
        have d0 := q1 k 0 hkl (by omega)
        have d1 := q1 k 1 hkl (by omega)
        rw [← ht] at d0 d1
        have HTk := Lib.hid (tm_take ht hkl)
        obtain ⟨t0, t1⟩ := t
        simp only [Tm.cells, List.getElem?_cons_zero, List.getElem?_cons_succ, Nat.add_zero] at d0 d1
        have d0 := cell_below hbel d0 hbb
        have d1 := cell_below hbel d1 hbb
        have hfl : (cnF id T k).length ≤ k := by unfold cnF; refine Nat.le_trans (List.length_filter_le _ _) ?_; simp; omega
        clear ht q1
        by_cases he : t1 = id
        · have HF := Lib.hid (show cnF id T (k + 1) = cnF id T k by unfold cnF; rw [HTk.out, List.filter_append]; simp [he])
          subst he
          go_wp2_with fail
          go_roundw
          case rel => exact ⟨k + 1, by omega, by go_num, HB.out, by rw [HF.out]; exact HO.out⟩
          case measure => simp [intOf]; omega
        · have HF := Lib.hid (show cnF id T (k + 1) = cnF id T k ++ [⟨t0, t1⟩] by unfold cnF; rw [HTk.out, List.filter_append]; simp [he])
          obtain ⟨X, hX⟩ : ∃ X, X = cnF id T k := ⟨_, rfl⟩
          rw [← hX] at HF HO hfl ⊢
          clear hX
          go_wp2_with (at_builtin; go_loud (refine wpList_append_own _ rfl _ _ 38 rfl w2.heap.size 43 i0 (.agg #[.int .i64 0, .int .i64 0]) 2 16 Try.underlying38 hi hi0 hi1 hi2 rfl (by decide) _ _ _ rfl (HO.out.alloc _) ⟨wr.heap.size, 0, none⟩ 1 1 (Tm.cells ⟨t0, t1⟩) rfl rfl (news_lit rfl _ 43) ?c1 ?c2 ?c3 ?c4 ?_))
          case c1 => exact tm_one _
          case c2 => unfold maxLen; omega
          case c3 => omega
          case c4 => first | omega | (simp; omega)
          intro v' w6 hown' hgrow _
          have hb6 := grown_below (B := w2.heap.size) ((Below.refl wr.heap.size wr).alloc (Nat.le_refl _) _) (by omega) HO.out hgrow
          have HB6 := Lib.hid (HB.out.trans hb6)
          have HO6 : Hid (w6.ownsRow w2.heap.size 43 2 v' (cnF id T (k + 1)).length ((cnF id T (k + 1)).map Tm.cells).flatten) := by
            show w6.ownsRow w2.heap.size 43 2 v' (cnF id T (k + 1)).length ((cnF id T (k + 1)).map Tm.cells).flatten
            rw [HF.out, List.map_append, List.flatten_append, List.length_append, List.length_singleton]
            simpa using hown'
          clear hown' hgrow hb6 HO HB
          go_wp2_with fail
          go_roundw
          case rel => exact ⟨k + 1, by omega, by go_num, HB6.out, HO6.out⟩
          case measure => simp [intOf]; omega
      · have hge : ¬ ((T.length : Nat) : Int) < (T.length : Int) := by omega
        have y0 := cell_below hbel g1 (by omega)
        have y1 := cell_below hbel g2 (by omega)
        have x0 := cell_below hbel g0 (by omega)
        have f0 : ∀ n, wr.frozen? ⟨w.heap.size + 1, n, none⟩ = false := fun n => (hbel.frozen (p := ⟨w.heap.size + 1, n, none⟩) (by simp; omega)).trans (g3 n)
        have HBw := Lib.hid (HB2.out.trans (HB.out.mono HB2.out.size))
        have hbw := HBw.out.size
        have hall : cnF id T T.length = T.filter fun t => !(t.id == id) := by simp [cnF]
        by_cases he : ∃ t ∈ T, t.id = id
        · have hlt : (cnF id T T.length).length < T.length := by
            rw [hall]
            obtain ⟨t, ht, e⟩ := he
            refine List.length_filter_lt_length_iff_exists.2 ⟨t, ht, by simp [e]⟩
          obtain ⟨rfl, rfl, rfl⟩ := HA.out.some HM.out (by rw [← HT.out]; exact he)
          rw [← HT.out]
          have hne : ¬ ((cnF id T T.length).length : Int) = (T.length : Int) := by omega
          obtain ⟨N, hN⟩ := Int.eq_ofNat_of_zero_le HM.out.1
          subst hN
          have hN2 : N ≤ 2199023255552 := by have := HM.out.2.1; omega
          rw [← hall]
          obtain ⟨X, hX⟩ : ∃ X, X = cnF id T T.length := ⟨_, rfl⟩
          have hXl : X.length ≤ 200 := by rw [hX]; omega
          have hXm : ∀ t ∈ X, 0 ≤ t.at_ ∧ t.at_ ≤ 2199023255552 := by
            intro t ht
            rw [hX, hall] at ht
            have h1 := HM.out.tm t (by rw [← HT.out]; exact (List.mem_filter.1 ht).1)
            have h2 := HM.out.1
            have h3 := HM.out.2.1
            obtain ⟨h4, h5, h6, _⟩ := h1
            omega
          rw [← hX] at HO hne ⊢
          have HXm := Lib.hid hXm
          have HXe := Lib.hid (hX.trans hall)
          have RX := Lib.hid (RowNew_of_owns HO.out (by rw [List.length_map]) (lenc_Tm _)).1
          clear hX hXm hlt he hall
          go_wp2_with (go_at_call 22; refine (ref_WheelOf _ N X _ RX.out hN2 HXm.out (by omega)).mono ?_; rintro e w3 ⟨v3, rfl, hls, hb3⟩; obtain ⟨a3, c3, rfl⟩ := LsAt_shape hls.at_; have HL3 := Lib.hid hls; have y0 := cell_below hb3 y0 (by omega); have y1 := cell_below hb3 y1 (by omega); have f0 : ∀ n, w3.frozen? ⟨w.heap.size + 1, n, none⟩ = false := (fun n => (hb3.frozen (p := ⟨w.heap.size + 1, n, none⟩) (by simp; omega)).trans (f0 n)); have HB3 := Lib.hid hb3; clear hls hb3)
          refine bodyPost_ret (v := .tuple #[.agg #[.int .i64 (N : Int), .slice a3 (wheelOf (N : Int) X).length c3], .int .i64 0]) ?_ rfl ⟨_, rfl, ?_, ((HBw.out.trans (HB3.out.mono (by omega))).setCell (by simp) _).setCell (by simp) _⟩
          · simp [results, Try.results11, go_sem, *]
          · rw [← HT.out, ← HXe.out]; exact LsNew_mono (LsNew_setCell (p := ⟨w.heap.size + 1, 1, none⟩) (LsNew_setCell (p := ⟨w.heap.size + 1, 0, none⟩) HL3.out (by show w.heap.size + 1 < _; omega) _) (by show w.heap.size + 1 < _; omega) _) (by omega)
        · obtain ⟨rfl, rfl, rfl⟩ := HA.out.none HM.out (fun t ht e => he ⟨t, by rw [HT.out]; exact ht, e⟩)
          have hl : (cnF id T T.length).length = T.length := by
            rw [hall, List.filter_eq_self.2 (fun t ht => by have := fun e => he ⟨t, ht, e⟩; simpa using this)]
          rw [hl]
          go_wp2_with fail
          refine bodyPost_ret (v := .tuple #[.agg #[.int .i64 0, .slice none 0 0], .int .i64 8]) ?_ rfl (WhAns.nil ((HBw.out.setCell (by simp) _).setCell (by simp) _))
          simp [results, Try.results11, go_sem, *]
end Go.Proofs.Ythgfiadfpgfjdaa
