/- usherref.Advanced. -/
import Derived.Test.YthgfiadfpgfjdaaWhAv
import Derived.Test.YthgfiadfpgfjdaaWhCr
namespace Go.Proofs.Ythgfiadfpgfjdaa
open Go.RowKit
theorem selK_take {T : List Tm} {m : Nat} {t : Tm} (n : Int) (k : Nat) (h : T.take (m + 1) = T.take m ++ [t]) : selK (T.take (m + 1)) n k = selK (T.take m) n k ++ if t.id = (k : Int) ∧ t.at_ = n then [t] else [] := by
  unfold selK
  rw [h, List.filter_append, List.filter_cons]
  by_cases e : t.id = (k : Int) ∧ t.at_ = n
  · rw [if_pos e, if_pos (by simp [e.1, e.2])]; rfl
  · rw [if_neg e, if_neg (by simpa using e)]; rfl
def lfF (T : List Tm) (n : Int) (k : Nat) : List Tm := (T.take k).filter fun t => decide (n < t.at_)
theorem lfF_take {T : List Tm} {m : Nat} {t : Tm} (n : Int) (h : T.take (m + 1) = T.take m ++ [t]) : lfF T n (m + 1) = lfF T n m ++ if n < t.at_ then [t] else [] := by
  unfold lfF
  rw [h, List.filter_append, List.filter_cons]
  by_cases e : n < t.at_
  · rw [if_pos e, if_pos (by simpa using e)]; rfl
  · rw [if_neg e, if_neg (by simpa using e)]; rfl
theorem selK_len (E : List Tm) (n : Int) (k : Nat) : (selK E n k).length ≤ E.length := List.length_filter_le _ _
theorem offR_len (E : List Tm) (n : Int) (k : Nat) : (offR E n k).length ≤ E.length := by
  rw [(offR_perm E n k).length_eq]; exact List.length_filter_le _ _
set_option maxHeartbeats 4000000 in
set_option maxRecDepth 100000 in
theorem ref_Advanced (lv : Value) (now : Int) (LL : List (List Tm)) (w : World) (r : LsAt w lv LL) (hs : LL.flatten.length ≤ 1048576) (now' : Int) (LL' : List (List Tm)) (off : List Int) (c : Int) (ha : AdvAns now LL now' LL' off c) :
    Calls Try.prog 13 #[.agg #[.int .i64 now, lv]] w (WhAns3 w now' LL' off c) := by
  obtain ⟨a, cp, rfl⟩ := LsAt_shape r
  have R2 := Lib.hid (LsAt_below r ((Below.alloc (Below.refl _ _) (Nat.le_refl _) (.cells #[.int .i64 now, .slice a LL.length cp] 24)).alloc (by simp) (.cells #[.int .i64 0, .slice none 0 0] 24)))
  have HA := Lib.hid ha
  clear r ha
  obtain ⟨T, hT⟩ : ∃ T, T = LL.flatten := ⟨_, rfl⟩
  by_cases hm : WhMay now LL
  rotate_left
  · obtain ⟨rfl, rfl, rfl, rfl⟩ := HA.out.no hm
    obtain ⟨b, hb, hbm⟩ : ∃ b : Bool, b = false ∧ ((WhMay now LL ∧ b = true) ∨ (¬ WhMay now LL ∧ b = false)) := ⟨false, rfl, Or.inr ⟨hm, rfl⟩⟩
    have HBM := Lib.hid hbm
    clear hbm hm
    go_enter Try.func13, Try.ntmps13
    go_wp2_with (go_at_call 19; refine (ref_WheelMay _ now LL _ R2.out hs b HBM.out).mono ?_; rintro e w1 ⟨rfl, hb1⟩; obtain ⟨hc1, hf1⟩ := bcell hb1)
    subst hb
    go_wp2
    refine bodyPost_ret (v := .tuple #[.agg #[.int .i64 0, .slice none 0 0], .slice none 0 0, .int .i64 6]) ?_ rfl (WhAns3.nil (by repeat (first | (with_reducible exact Below.refl _ _) | (with_reducible assumption) | (with_reducible refine Below.drew ?_) | (with_reducible refine Below_drewN ?_) | (with_reducible refine Below.alloc ?_ (by first | omega | (simp; done) | (simp; omega)) _) | (with_reducible refine Below.setCell ?_ (by first | omega | (simp; done) | (simp; omega)) _) | (with_reducible refine Below.trans ?_ (Below.mono (by assumption) (by first | omega | (simp; done) | (simp; omega)))))))
    simp [results, Try.results13, go_sem, *]
  · have HM := Lib.hid hm
    have HSz := Lib.hid hs
    have HT := Lib.hid hT
    have hT2 : T.length ≤ 200 := by rw [hT]; exact hm.tot
    have h0 := hm.1
    have h1 := hm.2.1
    obtain ⟨i0, hi, hi0, hi1, hi2⟩ := info_parts infoc_Tm
    obtain ⟨j0, hj, hj0, hj1, hj2⟩ := info_parts info_in
    clear hm hs hT
    by_cases hfull : now = 1099511627776
    · obtain ⟨rfl, rfl, rfl, rfl⟩ := HA.out.full HM.out hfull
      subst hfull
      clear h0 h1
      go_enter Try.func13, Try.ntmps13
      go_wp2_with (go_at_call 19; refine (ref_WheelMay _ _ LL _ R2.out HSz.out true (Or.inl ⟨HM.out, rfl⟩)).mono ?_; rintro e w1 ⟨rfl, hb1⟩; obtain ⟨hc1, hf1⟩ := bcell hb1; have hz1 := hb1.size; simp at hz1; have k1 : w.heap.size < w1.heap.size := (by omega); have k2 : w.heap.size + 1 < w1.heap.size := (by omega))
      refine bodyPost_ret (v := .tuple #[.agg #[.int .i64 0, .slice none 0 0], .slice none 0 0, .int .i64 9]) ?_ rfl (WhAns3.nil ?_)
      · simp [results, Try.results13, go_sem, *]
      · have B1 : Below w.heap.size w w1 := Below.trans ((by repeat (first | (with_reducible exact Below.refl _ _) | (with_reducible assumption) | (with_reducible refine Below.drew ?_) | (with_reducible refine Below_drewN ?_) | (with_reducible refine Below.alloc ?_ (by first | omega | (simp; done) | (simp; omega)) _) | (with_reducible refine Below.setCell ?_ (by first | omega | (simp; done) | (simp; omega)) _) | (with_reducible refine Below.trans ?_ (Below.mono (by assumption) (by first | omega | (simp; done) | (simp; omega)))))) : Below w.heap.size w _) (hb1.mono (by simp; omega))
        exact (B1.setCell (by simp) _).setCell (by simp) _
    · have hlt : now < 1099511627776 := by omega
      obtain ⟨n, hn1⟩ : ∃ n : Nat, (n : Int) = now + 1 := ⟨(now + 1).toNat, by omega⟩
      have e1 : IntKind.i64.wrap (now + 1) = (n : Int) := by rw [IntKind.wrap_i64]; omega
      have HN1 := Lib.hid hn1
      have HLt := Lib.hid hlt
      have hn2 : n ≤ 2199023255552 := by omega
      have HN2 := Lib.hid hn2
      clear hn1 hlt h1 hn2
      go_enter Try.func13, Try.ntmps13
      go_wp2_with (first | (go_at_call 19; refine (ref_WheelMay _ _ LL _ R2.out HSz.out true (Or.inl ⟨HM.out, rfl⟩)).mono ?_; rintro e w1 ⟨rfl, hb1⟩; obtain ⟨hc1, hf1⟩ := bcell hb1; have hz1 := hb1.size; simp at hz1; have k1 : w.heap.size < w1.heap.size := (by omega); have k2 : w.heap.size + 1 < w1.heap.size := (by omega)) | (go_at_call 21; refine (ref_TimersOfT _ now LL T _ (LsAt_below R2.out hb1) HT.out (by omega)).mono ?_; rintro e w3 ⟨v3, rfl, hown3, hb3⟩; obtain ⟨hc3, hf3⟩ := bcell hb3; obtain ⟨av, cv, rfl, _⟩ := owns_shape hown3; have HO3 := Lib.hid hown3; clear hown3))
      have g0 : w3.cell? ⟨w.heap.size, 0, none⟩ = some (.int .i64 now) := cell_below hb3 (cell_below hb1 (by go_simp) (by simp; omega)) (by omega)
      have g1 : w3.cell? ⟨w.heap.size + 1, 0, none⟩ = some (.int .i64 0) := cell_below hb3 (cell_below hb1 (by go_simp) (by simp)) (by omega)
      have g2 : w3.cell? ⟨w.heap.size + 1, 1, none⟩ = some (.slice none 0 0) := cell_below hb3 (cell_below hb1 (by go_simp) (by simp)) (by omega)
      have g3 : ∀ n, w3.frozen? ⟨w.heap.size + 1, n, none⟩ = false := fun n => (hb3.frozen (p := ⟨w.heap.size + 1, n, none⟩) (by simp; omega)).trans ((hb1.frozen (p := ⟨w.heap.size + 1, n, none⟩) (by simp)).trans (by go_simp))
      have B1 : Below w.heap.size w w1 := Below.trans ((by repeat (first | (with_reducible exact Below.refl _ _) | (with_reducible assumption) | (with_reducible refine Below.drew ?_) | (with_reducible refine Below_drewN ?_) | (with_reducible refine Below.alloc ?_ (by first | omega | (simp; done) | (simp; omega)) _) | (with_reducible refine Below.setCell ?_ (by first | omega | (simp; done) | (simp; omega)) _) | (with_reducible refine Below.trans ?_ (Below.mono (by assumption) (by first | omega | (simp; done) | (simp; omega)))))) : Below w.heap.size w _) (hb1.mono (by simp; omega))
      have hz3 := hb3.size
      have HB3 : Hid (Below w.heap.size w w3) := B1.trans (hb3.mono (by omega))
      clear hb1 hb3 hc1 hf1 hc3 hf3 B1
      have RT := Lib.hid (RowNew_of_owns HO3.out (by rw [List.length_map]) (lenc_Tm _)).1
      obtain ⟨_, _, e0, lt, mt, _, pt⟩ := RowAt_fn Tm.zero RT.out
      injection e0 with e01 _ e03
      subst e01; subst e03
      have PT := Lib.hid pt
      clear pt
      go_loopw [7, 8] (fun o i wr => ∃ k : Nat, k ≤ 200 ∧ i = .int .i64 k ∧ Below w3.heap.size w3 wr ∧ wr.ownsRow w3.heap.size 3 1 o (offR T (n : Int) k).length ((offR T (n : Int) k).map fun t => Value.int .i64 t.id)) (fun _ i _ => 200 - (intOf i).toNat)
      case atStart => exact ⟨0, by omega, rfl, Below.refl _ _, by simpa [offR] using World.ownsRow_nil _ _ _ _⟩
      case round =>
        obtain ⟨k, hk, rfl, hB, hO⟩ := hrel
        have HB := Lib.hid hB
        have HO := Lib.hid hO
        have hzr := hB.size
        have g0 := cell_below hB g0 (by omega)
        have g1 := cell_below hB g1 (by omega)
        have g2 := cell_below hB g2 (by omega)
        have g3 : ∀ n, wr.frozen? ⟨w.heap.size + 1, n, none⟩ = false := fun n => (hB.frozen (p := ⟨w.heap.size + 1, n, none⟩) (by simp; omega)).trans (g3 n)
        have HLo := Lib.hid (offR_len T (n : Int) k)
        rcases (show k < 200 ∨ k = 200 by omega) with hkl | rfl
        · have hkl' : (k : Int) < 200 := by omega
          obtain ⟨X, hX⟩ : ∃ X, X = offR T (n : Int) k := ⟨_, rfl⟩
          have HX := Lib.hid hX
          rw [← hX] at HO HLo
          clear hX hB hO
          go_wp2_with fail
          obtain ⟨we, rfl⟩ : ∃ we, we = wr := ⟨_, rfl⟩
          go_loopw [7, 9] (fun o i wp => ∃ m : Nat, m ≤ T.length ∧ i = .int .i64 m ∧ Below w3.heap.size w3 wp ∧ wp.cell? ⟨w.heap.size, 0, none⟩ = some (.int .i64 now) ∧ wp.ownsRow w3.heap.size 3 1 o (X.length + (selK (T.take m) (n : Int) k).length) ((X ++ selK (T.take m) (n : Int) k).map fun t => Value.int .i64 t.id)) (fun _ i _ => T.length - (intOf i).toNat)
          case atStart => exact ⟨0, Nat.zero_le _, rfl, HB.out, g0, by simpa [selK] using HO.out⟩
          case round =>
            clear HB HO
            obtain ⟨m, hm, rfl, hB, g0, hO⟩ := hrel
            have HB := Lib.hid hB
            have HO := Lib.hid hO
            have hz5 := hB.size
            obtain ⟨ao, co, rfl, _⟩ := owns_shape hO
            have hlo := HLo.out
            have hls : (selK (T.take m) (n : Int) k).length ≤ 200 := Nat.le_trans (selK_len _ _ _) (by rw [List.length_take]; omega)
            rcases (show m < T.length ∨ m = T.length by omega) with hml | rfl
            · have hml' : (m : Int) < (T.length : Int) := by omega
              have p0 : (0 : Int) ≤ (m : Int) := by omega
              obtain ⟨bx, ox, rfl, hbx, q1⟩ := PT.out (by intro h; rw [h] at hml; simp at hml)
              obtain ⟨t, ht⟩ : ∃ t, t = T.getD m Tm.zero := ⟨_, rfl⟩
              have d0 := q1 m 0 hml (by omega)
              have d1 := q1 m 1 hml (by omega)
              rw [← ht] at d0 d1
              have HSk := Lib.hid (selK_take (n : Int) k (tm_take ht hml))
              obtain ⟨t0, t1⟩ := t
              simp only [Tm.cells, List.getElem?_cons_zero, List.getElem?_cons_succ, Nat.add_zero] at d0 d1
              have d0 := cell_below hB d0 hbx
              have d1 := cell_below hB d1 hbx
              clear ht q1 hB hO
              by_cases hid : t1 = (k : Int)
              · have e2 : (t1 == (k : Int)) = true := by simpa using hid
                have HId := Lib.hid hid
                clear hid
                by_cases hat : t0 = (n : Int)
                · have e3 : (t0 == (n : Int)) = true := by simpa using hat
                  have HAt := Lib.hid hat
                  clear hat
                  go_wp2_with fail
                  (refine wp_region_noPanic ?_; refine wp_region_held_drew (S := fun w' : World => w'.cell? ⟨bx, ox + m * 2 + 1, none⟩ = some (.int .i64 t1) ∧ w'.cell? ⟨bx, ox + m * 2, none⟩ = some (.int .i64 t0) ∧ w'.cell? ⟨w.heap.size, 0, none⟩ = some (.int .i64 now)) (by kernel_rfl) ?q1xb (fun hHeld => ?_); (case q1xb => ((try dsimp only); ((go_split_ands; (try dsimp only); (repeat' apply And.intro); all_goals (repeat (first | with_reducible assumption | (with_reducible refine (cell_set_ne ?_).trans ?_; omega) | (with_reducible refine cell_alloc _ ?_) | (with_reducible refine cell_drew ?_) | (with_reducible refine cell_drewN _ ?_))))))); refine wpAnyH_take (i := 0) (v := ?q1xv0) (by simp only [List.getElem?_toArray, List.getElem?_cons_zero]; exact rfl) (by kernel_rfl) (by kernel_rfl) (by kernel_rfl) (fun _ _ _ h => h) (Or.inl ⟨by rfl, ?q1xy0⟩) (by assumption) ?_; (case q1xy0 => (intro w hSw; (try dsimp only at hSw); go_simp; (try with_reducible rfl))); (try simp only [Act.put, List.setIfInBounds_toArray, List.set_cons_zero, List.set_cons_succ]); refine wpAnyH_take (i := 1) (v := ?q1xv1) (by simp only [List.getElem?_toArray, List.getElem?_cons_zero, List.getElem?_cons_succ]; exact rfl) (by kernel_rfl) (by kernel_rfl) (by kernel_rfl) (fun _ _ _ h => h) (Or.inl ⟨by rfl, ?q1xy1⟩) (by assumption) ?_; (case q1xy1 => (intro w hSw; (try dsimp only at hSw); go_simp; (try with_reducible rfl))); (try simp only [Act.put, List.setIfInBounds_toArray, List.set_cons_zero, List.set_cons_succ]); refine wpAnyH_take (i := 2) (v := ?q1xv2) (by simp only [List.getElem?_toArray, List.getElem?_cons_zero, List.getElem?_cons_succ]; exact rfl) (by kernel_rfl) (by kernel_rfl) (by kernel_rfl) (fun _ _ _ h => h) (Or.inl ⟨by rfl, ?q1xy2⟩) (by assumption) ?_; (case q1xy2 => (intro w hSw; (try dsimp only at hSw); go_simp; (try with_reducible rfl))); (try simp only [Act.put, List.setIfInBounds_toArray, List.set_cons_zero, List.set_cons_succ]); refine wpAnyH_take (i := 3) (v := ?q1xv3) (by simp only [List.getElem?_toArray, List.getElem?_cons_zero, List.getElem?_cons_succ]; exact rfl) (by kernel_rfl) (by kernel_rfl) (by kernel_rfl) (fun _ _ _ h => h) (Or.inl ⟨by rfl, ?q1xy3⟩) (by assumption) ?_; (case q1xy3 => (intro w hSw; (try dsimp only at hSw); go_simp; (try with_reducible rfl))); (try simp only [Act.put, List.setIfInBounds_toArray, List.set_cons_zero, List.set_cons_succ]); refine wpAnyH_take (i := 4) (v := ?q1xv4) (by simp only [List.getElem?_toArray, List.getElem?_cons_zero, List.getElem?_cons_succ]; exact rfl) (by kernel_rfl) (by kernel_rfl) (by kernel_rfl) (fun _ _ _ h => h) (Or.inl ⟨by rfl, ?q1xy4⟩) (by assumption) ?_; (case q1xy4 => (intro w hSw; (try dsimp only at hSw); go_simp; (try with_reducible rfl))); (try simp only [Act.put, List.setIfInBounds_toArray, List.set_cons_zero, List.set_cons_succ]); refine wpAnyH_take (i := 5) (v := ?q1xv5) (by simp only [List.getElem?_toArray, List.getElem?_cons_zero, List.getElem?_cons_succ]; exact rfl) (by kernel_rfl) (by kernel_rfl) (by kernel_rfl) (fun _ _ _ h => h) (Or.inl ⟨by rfl, ?q1xy5⟩) (by assumption) ?_; (case q1xy5 => (intro w hSw; (try dsimp only at hSw); go_simp; (try with_reducible rfl))); (try simp only [Act.put, List.setIfInBounds_toArray, List.set_cons_zero, List.set_cons_succ]); refine wpAnyH_take (i := 6) (v := ?q1xv6) (by simp only [List.getElem?_toArray, List.getElem?_cons_zero, List.getElem?_cons_succ]; exact rfl) (by kernel_rfl) (by kernel_rfl) (by kernel_rfl) (fun _ _ _ h => h) (Or.inl ⟨by rfl, ?q1xy6⟩) (by assumption) ?_; (case q1xy6 => (intro w hSw; (try dsimp only at hSw); go_simp; (try with_reducible rfl))); (try simp only [Act.put, List.setIfInBounds_toArray, List.set_cons_zero, List.set_cons_succ]); refine wpAnyH_take (i := 7) (v := ?q1xv7) (by simp only [List.getElem?_toArray, List.getElem?_cons_zero, List.getElem?_cons_succ]; exact rfl) (by kernel_rfl) (by kernel_rfl) (by kernel_rfl) (fun _ _ _ h => h) (Or.inl ⟨by rfl, ?q1xy7⟩) (by assumption) ?_; (case q1xy7 => (intro w hSw; (try dsimp only at hSw); go_simp; (try with_reducible rfl))); (try simp only [Act.put, List.setIfInBounds_toArray, List.set_cons_zero, List.set_cons_succ]); refine wpAnyH_take (i := 8) (v := ?q1xv8) (by simp only [List.getElem?_toArray, List.getElem?_cons_zero, List.getElem?_cons_succ]; exact rfl) (by kernel_rfl) (by kernel_rfl) (by kernel_rfl) (fun _ _ _ h => h) (Or.inl ⟨by rfl, ?q1xy8⟩) (by assumption) ?_; (case q1xy8 => (intro w hSw; (try dsimp only at hSw); go_simp; (try with_reducible rfl))); (try simp only [Act.put, List.setIfInBounds_toArray, List.set_cons_zero, List.set_cons_succ]); refine wpAnyH_take (i := 9) (v := ?q1xv9) (by simp only [List.getElem?_toArray, List.getElem?_cons_zero, List.getElem?_cons_succ]; exact rfl) (by kernel_rfl) (by kernel_rfl) (by kernel_rfl) (fun _ _ _ h => h) (Or.inl ⟨by rfl, ?q1xy9⟩) (by assumption) ?_; (case q1xy9 => (intro w hSw; (try dsimp only at hSw); go_simp; (try with_reducible rfl))); (try simp only [Act.put, List.setIfInBounds_toArray, List.set_cons_zero, List.set_cons_succ]); refine wpAnyH_take (i := 10) (v := ?q1xv10) (by simp only [List.getElem?_toArray, List.getElem?_cons_zero, List.getElem?_cons_succ]; exact rfl) (by kernel_rfl) (by kernel_rfl) (by kernel_rfl) (fun _ _ _ h => h) (Or.inl ⟨by rfl, ?q1xy10⟩) (by assumption) ?_; (case q1xy10 => (intro w hSw; (try dsimp only at hSw); go_simp; (try with_reducible rfl))); (try simp only [Act.put, List.setIfInBounds_toArray, List.set_cons_zero, List.set_cons_succ]); refine wpAnyH_take (i := 11) (v := ?q1xv11) (by simp only [List.getElem?_toArray, List.getElem?_cons_zero, List.getElem?_cons_succ]; exact rfl) (by kernel_rfl) (by kernel_rfl) (by kernel_rfl) (fun _ _ _ h => h) (Or.inl ⟨by rfl, ?q1xy11⟩) (by assumption) ?_; (case q1xy11 => (intro w hSw; (try dsimp only at hSw); go_simp; (try with_reducible rfl))); (try simp only [Act.put, List.setIfInBounds_toArray, List.set_cons_zero, List.set_cons_succ]); refine wpAnyH_take (i := 12) (v := ?q1xv12) (by simp only [List.getElem?_toArray, List.getElem?_cons_zero, List.getElem?_cons_succ]; exact rfl) (by kernel_rfl) (by kernel_rfl) (by kernel_rfl) (fun _ _ _ h => h) (Or.inl ⟨by rfl, ?q1xy12⟩) (by assumption) ?_; (case q1xy12 => (intro w hSw; (try dsimp only at hSw); go_simp; (try with_reducible rfl))); (try simp only [Act.put, List.setIfInBounds_toArray, List.set_cons_zero, List.set_cons_succ]); refine wpAnyH_take (i := 13) (v := ?q1xv13) (by simp only [List.getElem?_toArray, List.getElem?_cons_zero, List.getElem?_cons_succ]; exact rfl) (by kernel_rfl) (by kernel_rfl) (by kernel_rfl) (fun _ _ _ h => h) (Or.inl ⟨by rfl, ?q1xy13⟩) (by assumption) ?_; (case q1xy13 => (intro w hSw; (try dsimp only at hSw); go_simp; (try with_reducible rfl))); (try simp only [Act.put, List.setIfInBounds_toArray, List.set_cons_zero, List.set_cons_succ]); refine wpAnyH_take (i := 14) (v := ?q1xv14) (by simp only [List.getElem?_toArray, List.getElem?_cons_zero, List.getElem?_cons_succ]; exact rfl) (by kernel_rfl) (by kernel_rfl) (by kernel_rfl) (fun _ _ _ h => h) (Or.inl ⟨by rfl, ?q1xy14⟩) (by assumption) ?_; (case q1xy14 => (intro w hSw; (try dsimp only at hSw); go_simp; (try with_reducible rfl))); (try simp only [Act.put, List.setIfInBounds_toArray, List.set_cons_zero, List.set_cons_succ]); refine wpAnyH_take (i := 15) (v := ?q1xv15) (by simp only [List.getElem?_toArray, List.getElem?_cons_zero, List.getElem?_cons_succ]; exact rfl) (by kernel_rfl) (by kernel_rfl) (by kernel_rfl) (fun _ _ _ h => h) (Or.inl ⟨by rfl, ?q1xy15⟩) (by assumption) ?_; (case q1xy15 => (intro w hSw; (try dsimp only at hSw); go_simp; (try with_reducible rfl))); (try simp only [Act.put, List.setIfInBounds_toArray, List.set_cons_zero, List.set_cons_succ]); refine wpAnyH_take (i := 16) (v := ?q1xv16) (by simp only [List.getElem?_toArray, List.getElem?_cons_zero, List.getElem?_cons_succ]; exact rfl) (by kernel_rfl) (by kernel_rfl) (by kernel_rfl) (fun _ _ _ h => h) (Or.inl ⟨by rfl, ?q1xy16⟩) (by assumption) ?_; (case q1xy16 => (intro w hSw; (try dsimp only at hSw); go_simp; (try with_reducible rfl))); (try simp only [Act.put, List.setIfInBounds_toArray, List.set_cons_zero, List.set_cons_succ]); refine wpAnyH_take (i := 17) (v := ?q1xv17) (by simp only [List.getElem?_toArray, List.getElem?_cons_zero, List.getElem?_cons_succ]; exact rfl) (by kernel_rfl) (by kernel_rfl) (by kernel_rfl) (fun _ _ _ h => h) (Or.inl ⟨by rfl, ?q1xy17⟩) (by assumption) ?_; (case q1xy17 => (intro w hSw; (try dsimp only at hSw); go_simp; (try with_reducible rfl))); (try simp only [Act.put, List.setIfInBounds_toArray, List.set_cons_zero, List.set_cons_succ]); refine wpAnyH_done (by kernel_rfl) ?_ _; refine NoPanic.normal ?_)
                  have HF := Lib.hid (show selK (T.take (m + 1)) (n : Int) k = selK (T.take m) (n : Int) k ++ [⟨t0, t1⟩] by rw [HSk.out, if_pos ⟨HId.out, HAt.out⟩])
                  go_wp2_with (at_builtin; go_loud (refine wpList_append_own _ rfl _ _ 33 rfl w3.heap.size 3 j0 (.int .i64 0) 1 8 Try.underlying33 hj hj0 hj1 hj2 rfl (by decide) _ _ _ rfl (own_keep HO.out (Below.drew ((Below.refl wr.heap.size wr).alloc (Nat.le_refl _) _))) ⟨wr.heap.size, 0, none⟩ 1 1 [.int .i64 (k : Int)] rfl rfl ?c0 ?c1 ?c2 ?c3 ?c4 ?_))
                  case c0 => exact fun j u h => news_lit (w := wr) rfl [.int .i64 (k : Int)] 3 j u h
                  case c1 => intro u hu; obtain rfl := List.mem_singleton.1 hu; rfl
                  case c2 => unfold maxLen; omega
                  case c3 => omega
                  case c4 => simp; omega
                  intro v6 w6 hown6 hgr6 _
                  have hb6 := grown_below (B := w3.heap.size) (Below.drew ((Below.refl wr.heap.size wr).alloc (Nat.le_refl _) _)) (by omega) HO.out hgr6
                  have g0 := hb6.cell (p := ⟨w.heap.size, 0, none⟩) (by show w.heap.size < _; omega) |>.trans g0
                  have HB6 := Lib.hid (HB.out.trans hb6)
                  have HO6 : Hid (w6.ownsRow w3.heap.size 3 1 v6 (X.length + (selK (T.take (m + 1)) (n : Int) k).length) ((X ++ selK (T.take (m + 1)) (n : Int) k).map fun t => Value.int .i64 t.id)) := by
                    show World.ownsRow _ _ _ _ _ _ _
                    rw [HF.out, List.length_append, ← Nat.add_assoc]
                    simp only [List.map_append, List.map_cons, List.map_nil, HId.out]
                    exact hown6
                  obtain ⟨a6, c6, rfl, _⟩ := owns_shape hown6
                  clear hown6 hgr6 hb6 HO HB
                  go_wp2_with fail
                  go_roundw
                  case rel => exact ⟨m + 1, by omega, by go_num, HB6.out, g0, HO6.out⟩
                  case measure => simp [intOf]; omega
                · have e3 : (t0 == (n : Int)) = false := by simpa using hat
                  have HAt := Lib.hid hat
                  clear hat
                  go_wp2_with fail
                  (refine wp_region_noPanic ?_; refine wp_region_held_drew (S := fun w' : World => w'.cell? ⟨bx, ox + m * 2 + 1, none⟩ = some (.int .i64 t1) ∧ w'.cell? ⟨bx, ox + m * 2, none⟩ = some (.int .i64 t0) ∧ w'.cell? ⟨w.heap.size, 0, none⟩ = some (.int .i64 now)) (by kernel_rfl) ?q2xb (fun hHeld => ?_); (case q2xb => ((try dsimp only); ((go_split_ands; (try dsimp only); (repeat' apply And.intro); all_goals (repeat (first | with_reducible assumption | (with_reducible refine (cell_set_ne ?_).trans ?_; omega) | (with_reducible refine cell_alloc _ ?_) | (with_reducible refine cell_drew ?_) | (with_reducible refine cell_drewN _ ?_))))))); refine wpAnyH_take (i := 0) (v := ?q2xv0) (by simp only [List.getElem?_toArray, List.getElem?_cons_zero]; exact rfl) (by kernel_rfl) (by kernel_rfl) (by kernel_rfl) (fun _ _ _ h => h) (Or.inl ⟨by rfl, ?q2xy0⟩) (by assumption) ?_; (case q2xy0 => (intro w hSw; (try dsimp only at hSw); go_simp; (try with_reducible rfl))); (try simp only [Act.put, List.setIfInBounds_toArray, List.set_cons_zero, List.set_cons_succ]); refine wpAnyH_take (i := 1) (v := ?q2xv1) (by simp only [List.getElem?_toArray, List.getElem?_cons_zero, List.getElem?_cons_succ]; exact rfl) (by kernel_rfl) (by kernel_rfl) (by kernel_rfl) (fun _ _ _ h => h) (Or.inl ⟨by rfl, ?q2xy1⟩) (by assumption) ?_; (case q2xy1 => (intro w hSw; (try dsimp only at hSw); go_simp; (try with_reducible rfl))); (try simp only [Act.put, List.setIfInBounds_toArray, List.set_cons_zero, List.set_cons_succ]); refine wpAnyH_take (i := 2) (v := ?q2xv2) (by simp only [List.getElem?_toArray, List.getElem?_cons_zero, List.getElem?_cons_succ]; exact rfl) (by kernel_rfl) (by kernel_rfl) (by kernel_rfl) (fun _ _ _ h => h) (Or.inl ⟨by rfl, ?q2xy2⟩) (by assumption) ?_; (case q2xy2 => (intro w hSw; (try dsimp only at hSw); go_simp; (try with_reducible rfl))); (try simp only [Act.put, List.setIfInBounds_toArray, List.set_cons_zero, List.set_cons_succ]); refine wpAnyH_take (i := 3) (v := ?q2xv3) (by simp only [List.getElem?_toArray, List.getElem?_cons_zero, List.getElem?_cons_succ]; exact rfl) (by kernel_rfl) (by kernel_rfl) (by kernel_rfl) (fun _ _ _ h => h) (Or.inl ⟨by rfl, ?q2xy3⟩) (by assumption) ?_; (case q2xy3 => (intro w hSw; (try dsimp only at hSw); go_simp; (try with_reducible rfl))); (try simp only [Act.put, List.setIfInBounds_toArray, List.set_cons_zero, List.set_cons_succ]); refine wpAnyH_take (i := 4) (v := ?q2xv4) (by simp only [List.getElem?_toArray, List.getElem?_cons_zero, List.getElem?_cons_succ]; exact rfl) (by kernel_rfl) (by kernel_rfl) (by kernel_rfl) (fun _ _ _ h => h) (Or.inl ⟨by rfl, ?q2xy4⟩) (by assumption) ?_; (case q2xy4 => (intro w hSw; (try dsimp only at hSw); go_simp; (try with_reducible rfl))); (try simp only [Act.put, List.setIfInBounds_toArray, List.set_cons_zero, List.set_cons_succ]); refine wpAnyH_take (i := 5) (v := ?q2xv5) (by simp only [List.getElem?_toArray, List.getElem?_cons_zero, List.getElem?_cons_succ]; exact rfl) (by kernel_rfl) (by kernel_rfl) (by kernel_rfl) (fun _ _ _ h => h) (Or.inl ⟨by rfl, ?q2xy5⟩) (by assumption) ?_; (case q2xy5 => (intro w hSw; (try dsimp only at hSw); go_simp; (try with_reducible rfl))); (try simp only [Act.put, List.setIfInBounds_toArray, List.set_cons_zero, List.set_cons_succ]); refine wpAnyH_take (i := 6) (v := ?q2xv6) (by simp only [List.getElem?_toArray, List.getElem?_cons_zero, List.getElem?_cons_succ]; exact rfl) (by kernel_rfl) (by kernel_rfl) (by kernel_rfl) (fun _ _ _ h => h) (Or.inl ⟨by rfl, ?q2xy6⟩) (by assumption) ?_; (case q2xy6 => (intro w hSw; (try dsimp only at hSw); go_simp; (try with_reducible rfl))); (try simp only [Act.put, List.setIfInBounds_toArray, List.set_cons_zero, List.set_cons_succ]); refine wpAnyH_take (i := 7) (v := ?q2xv7) (by simp only [List.getElem?_toArray, List.getElem?_cons_zero, List.getElem?_cons_succ]; exact rfl) (by kernel_rfl) (by kernel_rfl) (by kernel_rfl) (fun _ _ _ h => h) (Or.inl ⟨by rfl, ?q2xy7⟩) (by assumption) ?_; (case q2xy7 => (intro w hSw; (try dsimp only at hSw); go_simp; (try with_reducible rfl))); (try simp only [Act.put, List.setIfInBounds_toArray, List.set_cons_zero, List.set_cons_succ]); refine wpAnyH_take (i := 8) (v := ?q2xv8) (by simp only [List.getElem?_toArray, List.getElem?_cons_zero, List.getElem?_cons_succ]; exact rfl) (by kernel_rfl) (by kernel_rfl) (by kernel_rfl) (fun _ _ _ h => h) (Or.inl ⟨by rfl, ?q2xy8⟩) (by assumption) ?_; (case q2xy8 => (intro w hSw; (try dsimp only at hSw); go_simp; (try with_reducible rfl))); (try simp only [Act.put, List.setIfInBounds_toArray, List.set_cons_zero, List.set_cons_succ]); refine wpAnyH_take (i := 9) (v := ?q2xv9) (by simp only [List.getElem?_toArray, List.getElem?_cons_zero, List.getElem?_cons_succ]; exact rfl) (by kernel_rfl) (by kernel_rfl) (by kernel_rfl) (fun _ _ _ h => h) (Or.inl ⟨by rfl, ?q2xy9⟩) (by assumption) ?_; (case q2xy9 => (intro w hSw; (try dsimp only at hSw); go_simp; (try with_reducible rfl))); (try simp only [Act.put, List.setIfInBounds_toArray, List.set_cons_zero, List.set_cons_succ]); refine wpAnyH_take (i := 10) (v := ?q2xv10) (by simp only [List.getElem?_toArray, List.getElem?_cons_zero, List.getElem?_cons_succ]; exact rfl) (by kernel_rfl) (by kernel_rfl) (by kernel_rfl) (fun _ _ _ h => h) (Or.inl ⟨by rfl, ?q2xy10⟩) (by assumption) ?_; (case q2xy10 => (intro w hSw; (try dsimp only at hSw); go_simp; (try with_reducible rfl))); (try simp only [Act.put, List.setIfInBounds_toArray, List.set_cons_zero, List.set_cons_succ]); refine wpAnyH_take (i := 11) (v := ?q2xv11) (by simp only [List.getElem?_toArray, List.getElem?_cons_zero, List.getElem?_cons_succ]; exact rfl) (by kernel_rfl) (by kernel_rfl) (by kernel_rfl) (fun _ _ _ h => h) (Or.inl ⟨by rfl, ?q2xy11⟩) (by assumption) ?_; (case q2xy11 => (intro w hSw; (try dsimp only at hSw); go_simp; (try with_reducible rfl))); (try simp only [Act.put, List.setIfInBounds_toArray, List.set_cons_zero, List.set_cons_succ]); refine wpAnyH_take (i := 12) (v := ?q2xv12) (by simp only [List.getElem?_toArray, List.getElem?_cons_zero, List.getElem?_cons_succ]; exact rfl) (by kernel_rfl) (by kernel_rfl) (by kernel_rfl) (fun _ _ _ h => h) (Or.inl ⟨by rfl, ?q2xy12⟩) (by assumption) ?_; (case q2xy12 => (intro w hSw; (try dsimp only at hSw); go_simp; (try with_reducible rfl))); (try simp only [Act.put, List.setIfInBounds_toArray, List.set_cons_zero, List.set_cons_succ]); refine wpAnyH_take (i := 13) (v := ?q2xv13) (by simp only [List.getElem?_toArray, List.getElem?_cons_zero, List.getElem?_cons_succ]; exact rfl) (by kernel_rfl) (by kernel_rfl) (by kernel_rfl) (fun _ _ _ h => h) (Or.inl ⟨by rfl, ?q2xy13⟩) (by assumption) ?_; (case q2xy13 => (intro w hSw; (try dsimp only at hSw); go_simp; (try with_reducible rfl))); (try simp only [Act.put, List.setIfInBounds_toArray, List.set_cons_zero, List.set_cons_succ]); refine wpAnyH_take (i := 14) (v := ?q2xv14) (by simp only [List.getElem?_toArray, List.getElem?_cons_zero, List.getElem?_cons_succ]; exact rfl) (by kernel_rfl) (by kernel_rfl) (by kernel_rfl) (fun _ _ _ h => h) (Or.inl ⟨by rfl, ?q2xy14⟩) (by assumption) ?_; (case q2xy14 => (intro w hSw; (try dsimp only at hSw); go_simp; (try with_reducible rfl))); (try simp only [Act.put, List.setIfInBounds_toArray, List.set_cons_zero, List.set_cons_succ]); refine wpAnyH_take (i := 15) (v := ?q2xv15) (by simp only [List.getElem?_toArray, List.getElem?_cons_zero, List.getElem?_cons_succ]; exact rfl) (by kernel_rfl) (by kernel_rfl) (by kernel_rfl) (fun _ _ _ h => h) (Or.inl ⟨by rfl, ?q2xy15⟩) (by assumption) ?_; (case q2xy15 => (intro w hSw; (try dsimp only at hSw); go_simp; (try with_reducible rfl))); (try simp only [Act.put, List.setIfInBounds_toArray, List.set_cons_zero, List.set_cons_succ]); refine wpAnyH_take (i := 16) (v := ?q2xv16) (by simp only [List.getElem?_toArray, List.getElem?_cons_zero, List.getElem?_cons_succ]; exact rfl) (by kernel_rfl) (by kernel_rfl) (by kernel_rfl) (fun _ _ _ h => h) (Or.inl ⟨by rfl, ?q2xy16⟩) (by assumption) ?_; (case q2xy16 => (intro w hSw; (try dsimp only at hSw); go_simp; (try with_reducible rfl))); (try simp only [Act.put, List.setIfInBounds_toArray, List.set_cons_zero, List.set_cons_succ]); refine wpAnyH_take (i := 17) (v := ?q2xv17) (by simp only [List.getElem?_toArray, List.getElem?_cons_zero, List.getElem?_cons_succ]; exact rfl) (by kernel_rfl) (by kernel_rfl) (by kernel_rfl) (fun _ _ _ h => h) (Or.inl ⟨by rfl, ?q2xy17⟩) (by assumption) ?_; (case q2xy17 => (intro w hSw; (try dsimp only at hSw); go_simp; (try with_reducible rfl))); (try simp only [Act.put, List.setIfInBounds_toArray, List.set_cons_zero, List.set_cons_succ]); refine wpAnyH_done (by kernel_rfl) ?_ _; refine NoPanic.normal ?_)
                  have HF := Lib.hid (show selK (T.take (m + 1)) (n : Int) k = selK (T.take m) (n : Int) k by rw [HSk.out, if_neg (fun h => HAt.out h.2), List.append_nil])
                  go_wp2_with fail
                  go_roundw
                  case rel => exact ⟨m + 1, by omega, by go_num, Below.drew HB.out, g0, by rw [HF.out]; exact own_keep HO.out (Below.drew (Below.refl wr.heap.size wr))⟩
                  case measure => simp [intOf]; omega
              · have e2 : (t1 == (k : Int)) = false := by simpa using hid
                have HId := Lib.hid hid
                clear hid
                go_wp2_with fail
                (refine wp_region_noPanic ?_; refine wp_region_held_drew (S := fun w' : World => w'.cell? ⟨bx, ox + m * 2 + 1, none⟩ = some (.int .i64 t1) ∧ w'.cell? ⟨bx, ox + m * 2, none⟩ = some (.int .i64 t0) ∧ w'.cell? ⟨w.heap.size, 0, none⟩ = some (.int .i64 now)) (by kernel_rfl) ?q3xb (fun hHeld => ?_); (case q3xb => ((try dsimp only); ((go_split_ands; (try dsimp only); (repeat' apply And.intro); all_goals (repeat (first | with_reducible assumption | (with_reducible refine (cell_set_ne ?_).trans ?_; omega) | (with_reducible refine cell_alloc _ ?_) | (with_reducible refine cell_drew ?_) | (with_reducible refine cell_drewN _ ?_))))))); refine wpAnyH_take (i := 0) (v := ?q3xv0) (by simp only [List.getElem?_toArray, List.getElem?_cons_zero]; exact rfl) (by kernel_rfl) (by kernel_rfl) (by kernel_rfl) (fun _ _ _ h => h) (Or.inl ⟨by rfl, ?q3xy0⟩) (by assumption) ?_; (case q3xy0 => (intro w hSw; (try dsimp only at hSw); go_simp; (try with_reducible rfl))); (try simp only [Act.put, List.setIfInBounds_toArray, List.set_cons_zero, List.set_cons_succ]); refine wpAnyH_take (i := 1) (v := ?q3xv1) (by simp only [List.getElem?_toArray, List.getElem?_cons_zero, List.getElem?_cons_succ]; exact rfl) (by kernel_rfl) (by kernel_rfl) (by kernel_rfl) (fun _ _ _ h => h) (Or.inl ⟨by rfl, ?q3xy1⟩) (by assumption) ?_; (case q3xy1 => (intro w hSw; (try dsimp only at hSw); go_simp; (try with_reducible rfl))); (try simp only [Act.put, List.setIfInBounds_toArray, List.set_cons_zero, List.set_cons_succ]); refine wpAnyH_take (i := 2) (v := ?q3xv2) (by simp only [List.getElem?_toArray, List.getElem?_cons_zero, List.getElem?_cons_succ]; exact rfl) (by kernel_rfl) (by kernel_rfl) (by kernel_rfl) (fun _ _ _ h => h) (Or.inl ⟨by rfl, ?q3xy2⟩) (by assumption) ?_; (case q3xy2 => (intro w hSw; (try dsimp only at hSw); go_simp; (try with_reducible rfl))); (try simp only [Act.put, List.setIfInBounds_toArray, List.set_cons_zero, List.set_cons_succ]); refine wpAnyH_take (i := 3) (v := ?q3xv3) (by simp only [List.getElem?_toArray, List.getElem?_cons_zero, List.getElem?_cons_succ]; exact rfl) (by kernel_rfl) (by kernel_rfl) (by kernel_rfl) (fun _ _ _ h => h) (Or.inl ⟨by rfl, ?q3xy3⟩) (by assumption) ?_; (case q3xy3 => (intro w hSw; (try dsimp only at hSw); go_simp; (try with_reducible rfl))); (try simp only [Act.put, List.setIfInBounds_toArray, List.set_cons_zero, List.set_cons_succ]); refine wpAnyH_take (i := 4) (v := ?q3xv4) (by simp only [List.getElem?_toArray, List.getElem?_cons_zero, List.getElem?_cons_succ]; exact rfl) (by kernel_rfl) (by kernel_rfl) (by kernel_rfl) (fun _ _ _ h => h) (Or.inl ⟨by rfl, ?q3xy4⟩) (by assumption) ?_; (case q3xy4 => (intro w hSw; (try dsimp only at hSw); go_simp; (try with_reducible rfl))); (try simp only [Act.put, List.setIfInBounds_toArray, List.set_cons_zero, List.set_cons_succ]); refine wpAnyH_take (i := 5) (v := ?q3xv5) (by simp only [List.getElem?_toArray, List.getElem?_cons_zero, List.getElem?_cons_succ]; exact rfl) (by kernel_rfl) (by kernel_rfl) (by kernel_rfl) (fun _ _ _ h => h) (Or.inl ⟨by rfl, ?q3xy5⟩) (by assumption) ?_; (case q3xy5 => (intro w hSw; (try dsimp only at hSw); go_simp; (try with_reducible rfl))); (try simp only [Act.put, List.setIfInBounds_toArray, List.set_cons_zero, List.set_cons_succ]); refine wpAnyH_take (i := 6) (v := ?q3xv6) (by simp only [List.getElem?_toArray, List.getElem?_cons_zero, List.getElem?_cons_succ]; exact rfl) (by kernel_rfl) (by kernel_rfl) (by kernel_rfl) (fun _ _ _ h => h) (Or.inl ⟨by rfl, ?q3xy6⟩) (by assumption) ?_; (case q3xy6 => (intro w hSw; (try dsimp only at hSw); go_simp; (try with_reducible rfl))); (try simp only [Act.put, List.setIfInBounds_toArray, List.set_cons_zero, List.set_cons_succ]); refine wpAnyH_take (i := 7) (v := ?q3xv7) (by simp only [List.getElem?_toArray, List.getElem?_cons_zero, List.getElem?_cons_succ]; exact rfl) (by kernel_rfl) (by kernel_rfl) (by kernel_rfl) (fun _ _ _ h => h) (Or.inl ⟨by rfl, ?q3xy7⟩) (by assumption) ?_; (case q3xy7 => (intro w hSw; (try dsimp only at hSw); go_simp; (try with_reducible rfl))); (try simp only [Act.put, List.setIfInBounds_toArray, List.set_cons_zero, List.set_cons_succ]); refine wpAnyH_take (i := 8) (v := undef) (by simp only [List.getElem?_toArray, List.getElem?_cons_zero, List.getElem?_cons_succ]; exact rfl) (by kernel_rfl) (by kernel_rfl) (by kernel_rfl) (fun _ _ _ h => h) (Or.inr ⟨by rfl, rfl⟩) (by assumption) ?_; (try simp only [Act.put, List.setIfInBounds_toArray, List.set_cons_zero, List.set_cons_succ]); refine wpAnyH_take (i := 9) (v := undef) (by simp only [List.getElem?_toArray, List.getElem?_cons_zero, List.getElem?_cons_succ]; exact rfl) (by kernel_rfl) (by kernel_rfl) (by kernel_rfl) (fun _ _ _ h => h) (Or.inr ⟨by rfl, rfl⟩) (by assumption) ?_; (try simp only [Act.put, List.setIfInBounds_toArray, List.set_cons_zero, List.set_cons_succ]); refine wpAnyH_take (i := 10) (v := undef) (by simp only [List.getElem?_toArray, List.getElem?_cons_zero, List.getElem?_cons_succ]; exact rfl) (by kernel_rfl) (by kernel_rfl) (by kernel_rfl) (fun _ _ _ h => h) (Or.inr ⟨by rfl, rfl⟩) (by assumption) ?_; (try simp only [Act.put, List.setIfInBounds_toArray, List.set_cons_zero, List.set_cons_succ]); refine wpAnyH_take (i := 11) (v := undef) (by simp only [List.getElem?_toArray, List.getElem?_cons_zero, List.getElem?_cons_succ]; exact rfl) (by kernel_rfl) (by kernel_rfl) (by kernel_rfl) (fun _ _ _ h => h) (Or.inr ⟨by rfl, rfl⟩) (by assumption) ?_; (try simp only [Act.put, List.setIfInBounds_toArray, List.set_cons_zero, List.set_cons_succ]); refine wpAnyH_take (i := 12) (v := undef) (by simp only [List.getElem?_toArray, List.getElem?_cons_zero, List.getElem?_cons_succ]; exact rfl) (by kernel_rfl) (by kernel_rfl) (by kernel_rfl) (fun _ _ _ h => h) (Or.inr ⟨by rfl, rfl⟩) (by assumption) ?_; (try simp only [Act.put, List.setIfInBounds_toArray, List.set_cons_zero, List.set_cons_succ]); refine wpAnyH_take (i := 13) (v := undef) (by simp only [List.getElem?_toArray, List.getElem?_cons_zero, List.getElem?_cons_succ]; exact rfl) (by kernel_rfl) (by kernel_rfl) (by kernel_rfl) (fun _ _ _ h => h) (Or.inr ⟨by rfl, rfl⟩) (by assumption) ?_; (try simp only [Act.put, List.setIfInBounds_toArray, List.set_cons_zero, List.set_cons_succ]); refine wpAnyH_take (i := 14) (v := undef) (by simp only [List.getElem?_toArray, List.getElem?_cons_zero, List.getElem?_cons_succ]; exact rfl) (by kernel_rfl) (by kernel_rfl) (by kernel_rfl) (fun _ _ _ h => h) (Or.inr ⟨by rfl, rfl⟩) (by assumption) ?_; (try simp only [Act.put, List.setIfInBounds_toArray, List.set_cons_zero, List.set_cons_succ]); refine wpAnyH_take (i := 15) (v := undef) (by simp only [List.getElem?_toArray, List.getElem?_cons_zero, List.getElem?_cons_succ]; exact rfl) (by kernel_rfl) (by kernel_rfl) (by kernel_rfl) (fun _ _ _ h => h) (Or.inr ⟨by rfl, rfl⟩) (by assumption) ?_; (try simp only [Act.put, List.setIfInBounds_toArray, List.set_cons_zero, List.set_cons_succ]); refine wpAnyH_take (i := 16) (v := undef) (by simp only [List.getElem?_toArray, List.getElem?_cons_zero, List.getElem?_cons_succ]; exact rfl) (by kernel_rfl) (by kernel_rfl) (by kernel_rfl) (fun _ _ _ h => h) (Or.inr ⟨by rfl, rfl⟩) (by assumption) ?_; (try simp only [Act.put, List.setIfInBounds_toArray, List.set_cons_zero, List.set_cons_succ]); refine wpAnyH_take (i := 17) (v := ?q3xv17) (by simp only [List.getElem?_toArray, List.getElem?_cons_zero, List.getElem?_cons_succ]; exact rfl) (by kernel_rfl) (by kernel_rfl) (by kernel_rfl) (fun _ _ _ h => h) (Or.inl ⟨by rfl, ?q3xy17⟩) (by assumption) ?_; (case q3xy17 => (intro w hSw; (try dsimp only at hSw); go_simp; (try with_reducible rfl))); (try simp only [Act.put, List.setIfInBounds_toArray, List.set_cons_zero, List.set_cons_succ]); refine wpAnyH_done (by kernel_rfl) ?_ _; refine NoPanic.normal ?_)
                have HF := Lib.hid (show selK (T.take (m + 1)) (n : Int) k = selK (T.take m) (n : Int) k by rw [HSk.out, if_neg (fun h => HId.out h.1), List.append_nil])
                go_wp2_with fail
                go_roundw
                case rel => exact ⟨m + 1, by omega, by go_num, Below.drew HB.out, g0, by rw [HF.out]; exact own_keep HO.out (Below.drew (Below.refl wr.heap.size wr))⟩
                case measure => simp [intOf]; omega
            · have hge : ¬ ((T.length : Nat) : Int) < (T.length : Int) := by omega
              have HF := Lib.hid (show offR T (n : Int) (k + 1) = X ++ selK T (n : Int) k by rw [offR_succ, HX.out])
              clear hB hO
              go_wp2_with fail
              go_roundw
              case rel => exact ⟨k + 1, by omega, by go_num, HB.out, by have h := HO.out; rw [List.take_length] at h ⊢; rw [HF.out, List.length_append]; exact h⟩
              case measure => simp [intOf]; omega
        · have hge : ¬ ((200 : Nat) : Int) < 200 := by omega
          rw [show ((200 : Nat) : Int) = 200 from rfl]
          obtain ⟨X, hX⟩ : ∃ X, X = offR T (n : Int) 200 := ⟨_, rfl⟩
          have hXe := off_one HM.out.tm (n : Int)
          rw [← HT.out, ← hX] at hXe
          have HXe := Lib.hid hXe
          obtain ⟨ao, co, rfl, _⟩ := owns_shape hO
          rw [← hX] at HO HLo ⊢
          have hlo := HLo.out
          clear hX hXe hB hO
          go_wp2_with fail
          obtain ⟨we, rfl⟩ : ∃ we, we = wr := ⟨_, rfl⟩
          go_loopw [6, 10] (fun l i wp => ∃ m : Nat, m ≤ T.length ∧ i = .int .i64 m ∧ Below we.heap.size we wp ∧ wp.ownsRow we.heap.size 43 2 l (lfF T (n : Int) m).length ((lfF T (n : Int) m).map Tm.cells).flatten) (fun _ i _ => T.length - (intOf i).toNat)
          case atStart => exact ⟨0, Nat.zero_le _, rfl, Below.refl _ _, by simpa [lfF] using World.ownsRow_nil _ _ _ _⟩
          case round =>
            obtain ⟨m, hm, rfl, hB, hOl⟩ := hrel
            have HBl := Lib.hid hB
            have HOl := Lib.hid hOl
            have hz5 := hB.size
            have g0 := cell_below hB g0 (by omega)
            have g1 := cell_below hB g1 (by omega)
            have g2 := cell_below hB g2 (by omega)
            have g3 : ∀ n, wr.frozen? ⟨w.heap.size + 1, n, none⟩ = false := fun n => (hB.frozen (p := ⟨w.heap.size + 1, n, none⟩) (by simp; omega)).trans (g3 n)
            have hls : (lfF T (n : Int) m).length ≤ 200 := Nat.le_trans (List.length_filter_le _ _) (by rw [List.length_take]; omega)
            obtain ⟨al, cl, rfl, _⟩ := owns_shape hOl
            rcases (show m < T.length ∨ m = T.length by omega) with hml | rfl
            · have hml' : (m : Int) < (T.length : Int) := by omega
              have p0 : (0 : Int) ≤ (m : Int) := by omega
              obtain ⟨bx, ox, rfl, hbx, q1⟩ := PT.out (by intro h; rw [h] at hml; simp at hml)
              obtain ⟨t, ht⟩ : ∃ t, t = T.getD m Tm.zero := ⟨_, rfl⟩
              have d0 := q1 m 0 hml (by omega)
              have d1 := q1 m 1 hml (by omega)
              rw [← ht] at d0 d1
              have HSk := Lib.hid (lfF_take (n : Int) (tm_take ht hml))
              obtain ⟨t0, t1⟩ := t
              simp only [Tm.cells, List.getElem?_cons_zero, List.getElem?_cons_succ, Nat.add_zero] at d0 d1
              have d0 := cell_below hB (cell_below HB.out d0 hbx) (by omega)
              have d1 := cell_below hB (cell_below HB.out d1 hbx) (by omega)
              clear ht q1 hB hOl
              by_cases hat : (n : Int) < t0
              · have HAt := Lib.hid hat
                go_wp2_with fail
                (refine wp_region_noPanic ?_; refine wp_region_held_drew (S := fun w' : World => w'.cell? ⟨bx, ox + m * 2, none⟩ = some (.int .i64 t0) ∧ w'.cell? ⟨w.heap.size, 0, none⟩ = some (.int .i64 now)) (by kernel_rfl) ?q4xb (fun hHeld => ?_); (case q4xb => ((try dsimp only); ((go_split_ands; (try dsimp only); (repeat' apply And.intro); all_goals (repeat (first | with_reducible assumption | (with_reducible refine (cell_set_ne ?_).trans ?_; omega) | (with_reducible refine cell_alloc _ ?_) | (with_reducible refine cell_drew ?_) | (with_reducible refine cell_drewN _ ?_))))))); refine wpAnyH_take (i := 0) (v := ?q4xv0) (by simp only [List.getElem?_toArray, List.getElem?_cons_zero]; exact rfl) (by kernel_rfl) (by kernel_rfl) (by kernel_rfl) (fun _ _ _ h => h) (Or.inl ⟨by rfl, ?q4xy0⟩) (by assumption) ?_; (case q4xy0 => (intro w hSw; (try dsimp only at hSw); go_simp; (try with_reducible rfl))); (try simp only [Act.put, List.setIfInBounds_toArray, List.set_cons_zero, List.set_cons_succ]); refine wpAnyH_take (i := 1) (v := ?q4xv1) (by simp only [List.getElem?_toArray, List.getElem?_cons_zero, List.getElem?_cons_succ]; exact rfl) (by kernel_rfl) (by kernel_rfl) (by kernel_rfl) (fun _ _ _ h => h) (Or.inl ⟨by rfl, ?q4xy1⟩) (by assumption) ?_; (case q4xy1 => (intro w hSw; (try dsimp only at hSw); go_simp; (try with_reducible rfl))); (try simp only [Act.put, List.setIfInBounds_toArray, List.set_cons_zero, List.set_cons_succ]); refine wpAnyH_take (i := 2) (v := ?q4xv2) (by simp only [List.getElem?_toArray, List.getElem?_cons_zero, List.getElem?_cons_succ]; exact rfl) (by kernel_rfl) (by kernel_rfl) (by kernel_rfl) (fun _ _ _ h => h) (Or.inl ⟨by rfl, ?q4xy2⟩) (by assumption) ?_; (case q4xy2 => (intro w hSw; (try dsimp only at hSw); go_simp; (try with_reducible rfl))); (try simp only [Act.put, List.setIfInBounds_toArray, List.set_cons_zero, List.set_cons_succ]); refine wpAnyH_take (i := 3) (v := ?q4xv3) (by simp only [List.getElem?_toArray, List.getElem?_cons_zero, List.getElem?_cons_succ]; exact rfl) (by kernel_rfl) (by kernel_rfl) (by kernel_rfl) (fun _ _ _ h => h) (Or.inl ⟨by rfl, ?q4xy3⟩) (by assumption) ?_; (case q4xy3 => (intro w hSw; (try dsimp only at hSw); go_simp; (try with_reducible rfl))); (try simp only [Act.put, List.setIfInBounds_toArray, List.set_cons_zero, List.set_cons_succ]); refine wpAnyH_take (i := 4) (v := ?q4xv4) (by simp only [List.getElem?_toArray, List.getElem?_cons_zero, List.getElem?_cons_succ]; exact rfl) (by kernel_rfl) (by kernel_rfl) (by kernel_rfl) (fun _ _ _ h => h) (Or.inl ⟨by rfl, ?q4xy4⟩) (by assumption) ?_; (case q4xy4 => (intro w hSw; (try dsimp only at hSw); go_simp; (try with_reducible rfl))); (try simp only [Act.put, List.setIfInBounds_toArray, List.set_cons_zero, List.set_cons_succ]); refine wpAnyH_take (i := 5) (v := ?q4xv5) (by simp only [List.getElem?_toArray, List.getElem?_cons_zero, List.getElem?_cons_succ]; exact rfl) (by kernel_rfl) (by kernel_rfl) (by kernel_rfl) (fun _ _ _ h => h) (Or.inl ⟨by rfl, ?q4xy5⟩) (by assumption) ?_; (case q4xy5 => (intro w hSw; (try dsimp only at hSw); go_simp; (try with_reducible rfl))); (try simp only [Act.put, List.setIfInBounds_toArray, List.set_cons_zero, List.set_cons_succ]); refine wpAnyH_take (i := 6) (v := ?q4xv6) (by simp only [List.getElem?_toArray, List.getElem?_cons_zero, List.getElem?_cons_succ]; exact rfl) (by kernel_rfl) (by kernel_rfl) (by kernel_rfl) (fun _ _ _ h => h) (Or.inl ⟨by rfl, ?q4xy6⟩) (by assumption) ?_; (case q4xy6 => (intro w hSw; (try dsimp only at hSw); go_simp; (try with_reducible rfl))); (try simp only [Act.put, List.setIfInBounds_toArray, List.set_cons_zero, List.set_cons_succ]); refine wpAnyH_take (i := 7) (v := ?q4xv7) (by simp only [List.getElem?_toArray, List.getElem?_cons_zero, List.getElem?_cons_succ]; exact rfl) (by kernel_rfl) (by kernel_rfl) (by kernel_rfl) (fun _ _ _ h => h) (Or.inl ⟨by rfl, ?q4xy7⟩) (by assumption) ?_; (case q4xy7 => (intro w hSw; (try dsimp only at hSw); go_simp; (try with_reducible rfl))); (try simp only [Act.put, List.setIfInBounds_toArray, List.set_cons_zero, List.set_cons_succ]); refine wpAnyH_take (i := 8) (v := ?q4xv8) (by simp only [List.getElem?_toArray, List.getElem?_cons_zero, List.getElem?_cons_succ]; exact rfl) (by kernel_rfl) (by kernel_rfl) (by kernel_rfl) (fun _ _ _ h => h) (Or.inl ⟨by rfl, ?q4xy8⟩) (by assumption) ?_; (case q4xy8 => (intro w hSw; (try dsimp only at hSw); go_simp; (try with_reducible rfl))); (try simp only [Act.put, List.setIfInBounds_toArray, List.set_cons_zero, List.set_cons_succ]); refine wpAnyH_done (by kernel_rfl) ?_ _; refine NoPanic.normal ?_)
                have HF := Lib.hid (show lfF T (n : Int) (m + 1) = lfF T (n : Int) m ++ [⟨t0, t1⟩] by rw [HSk.out, if_pos HAt.out])
                obtain ⟨Z, hZ⟩ : ∃ Z, Z = lfF T (n : Int) m := ⟨_, rfl⟩
                rw [← hZ] at HF HOl hls ⊢
                clear hZ
                go_wp2_with (at_builtin; go_loud (refine wpList_append_own _ rfl _ _ 38 rfl we.heap.size 43 i0 (.agg #[.int .i64 0, .int .i64 0]) 2 16 Try.underlying38 hi hi0 hi1 hi2 rfl (by decide) _ _ _ rfl (own_keep HOl.out (Below.drew ((Below.refl wr.heap.size wr).alloc (Nat.le_refl _) _))) ⟨wr.heap.size, 0, none⟩ 1 1 (Tm.cells ⟨t0, t1⟩) rfl rfl ?c0 ?c1 ?c2 ?c3 ?c4 ?_))
                case c0 => exact fun j u h => news_lit (w := wr) rfl (Tm.cells ⟨t0, t1⟩) 43 j u h
                case c1 => exact tm_one _
                case c2 => unfold maxLen; omega
                case c3 => omega
                case c4 => simp; omega
                intro v6 w6 hown6 hgr6 _
                have hb6 := grown_below (B := we.heap.size) (Below.drew ((Below.refl wr.heap.size wr).alloc (Nat.le_refl _) _)) (by omega) HOl.out hgr6
                have HB6 := Lib.hid (HBl.out.trans hb6)
                have HO6 : Hid (w6.ownsRow we.heap.size 43 2 v6 (lfF T (n : Int) (m + 1)).length ((lfF T (n : Int) (m + 1)).map Tm.cells).flatten) := by
                  show World.ownsRow _ _ _ _ _ _ _
                  rw [HF.out, List.map_append, List.flatten_append, List.length_append, List.length_singleton]
                  simpa using hown6
                obtain ⟨a6, c6, rfl, _⟩ := owns_shape hown6
                clear hown6 hgr6 hb6 HOl HBl
                go_wp2_with fail
                go_roundw
                case rel => exact ⟨m + 1, by omega, by go_num, HB6.out, HO6.out⟩
                case measure => simp [intOf]; omega
              · have HAt := Lib.hid hat
                go_wp2_with fail
                (refine wp_region_noPanic ?_; refine wp_region_held_drew (S := fun w' : World => w'.cell? ⟨bx, ox + m * 2, none⟩ = some (.int .i64 t0) ∧ w'.cell? ⟨w.heap.size, 0, none⟩ = some (.int .i64 now)) (by kernel_rfl) ?q5xb (fun hHeld => ?_); (case q5xb => ((try dsimp only); ((go_split_ands; (try dsimp only); (repeat' apply And.intro); all_goals (repeat (first | with_reducible assumption | (with_reducible refine (cell_set_ne ?_).trans ?_; omega) | (with_reducible refine cell_alloc _ ?_) | (with_reducible refine cell_drew ?_) | (with_reducible refine cell_drewN _ ?_))))))); refine wpAnyH_take (i := 0) (v := ?q5xv0) (by simp only [List.getElem?_toArray, List.getElem?_cons_zero]; exact rfl) (by kernel_rfl) (by kernel_rfl) (by kernel_rfl) (fun _ _ _ h => h) (Or.inl ⟨by rfl, ?q5xy0⟩) (by assumption) ?_; (case q5xy0 => (intro w hSw; (try dsimp only at hSw); go_simp; (try with_reducible rfl))); (try simp only [Act.put, List.setIfInBounds_toArray, List.set_cons_zero, List.set_cons_succ]); refine wpAnyH_take (i := 1) (v := ?q5xv1) (by simp only [List.getElem?_toArray, List.getElem?_cons_zero, List.getElem?_cons_succ]; exact rfl) (by kernel_rfl) (by kernel_rfl) (by kernel_rfl) (fun _ _ _ h => h) (Or.inl ⟨by rfl, ?q5xy1⟩) (by assumption) ?_; (case q5xy1 => (intro w hSw; (try dsimp only at hSw); go_simp; (try with_reducible rfl))); (try simp only [Act.put, List.setIfInBounds_toArray, List.set_cons_zero, List.set_cons_succ]); refine wpAnyH_take (i := 2) (v := ?q5xv2) (by simp only [List.getElem?_toArray, List.getElem?_cons_zero, List.getElem?_cons_succ]; exact rfl) (by kernel_rfl) (by kernel_rfl) (by kernel_rfl) (fun _ _ _ h => h) (Or.inl ⟨by rfl, ?q5xy2⟩) (by assumption) ?_; (case q5xy2 => (intro w hSw; (try dsimp only at hSw); go_simp; (try with_reducible rfl))); (try simp only [Act.put, List.setIfInBounds_toArray, List.set_cons_zero, List.set_cons_succ]); refine wpAnyH_take (i := 3) (v := ?q5xv3) (by simp only [List.getElem?_toArray, List.getElem?_cons_zero, List.getElem?_cons_succ]; exact rfl) (by kernel_rfl) (by kernel_rfl) (by kernel_rfl) (fun _ _ _ h => h) (Or.inl ⟨by rfl, ?q5xy3⟩) (by assumption) ?_; (case q5xy3 => (intro w hSw; (try dsimp only at hSw); go_simp; (try with_reducible rfl))); (try simp only [Act.put, List.setIfInBounds_toArray, List.set_cons_zero, List.set_cons_succ]); refine wpAnyH_take (i := 4) (v := ?q5xv4) (by simp only [List.getElem?_toArray, List.getElem?_cons_zero, List.getElem?_cons_succ]; exact rfl) (by kernel_rfl) (by kernel_rfl) (by kernel_rfl) (fun _ _ _ h => h) (Or.inl ⟨by rfl, ?q5xy4⟩) (by assumption) ?_; (case q5xy4 => (intro w hSw; (try dsimp only at hSw); go_simp; (try with_reducible rfl))); (try simp only [Act.put, List.setIfInBounds_toArray, List.set_cons_zero, List.set_cons_succ]); refine wpAnyH_take (i := 5) (v := ?q5xv5) (by simp only [List.getElem?_toArray, List.getElem?_cons_zero, List.getElem?_cons_succ]; exact rfl) (by kernel_rfl) (by kernel_rfl) (by kernel_rfl) (fun _ _ _ h => h) (Or.inl ⟨by rfl, ?q5xy5⟩) (by assumption) ?_; (case q5xy5 => (intro w hSw; (try dsimp only at hSw); go_simp; (try with_reducible rfl))); (try simp only [Act.put, List.setIfInBounds_toArray, List.set_cons_zero, List.set_cons_succ]); refine wpAnyH_take (i := 6) (v := ?q5xv6) (by simp only [List.getElem?_toArray, List.getElem?_cons_zero, List.getElem?_cons_succ]; exact rfl) (by kernel_rfl) (by kernel_rfl) (by kernel_rfl) (fun _ _ _ h => h) (Or.inl ⟨by rfl, ?q5xy6⟩) (by assumption) ?_; (case q5xy6 => (intro w hSw; (try dsimp only at hSw); go_simp; (try with_reducible rfl))); (try simp only [Act.put, List.setIfInBounds_toArray, List.set_cons_zero, List.set_cons_succ]); refine wpAnyH_take (i := 7) (v := ?q5xv7) (by simp only [List.getElem?_toArray, List.getElem?_cons_zero, List.getElem?_cons_succ]; exact rfl) (by kernel_rfl) (by kernel_rfl) (by kernel_rfl) (fun _ _ _ h => h) (Or.inl ⟨by rfl, ?q5xy7⟩) (by assumption) ?_; (case q5xy7 => (intro w hSw; (try dsimp only at hSw); go_simp; (try with_reducible rfl))); (try simp only [Act.put, List.setIfInBounds_toArray, List.set_cons_zero, List.set_cons_succ]); refine wpAnyH_take (i := 8) (v := ?q5xv8) (by simp only [List.getElem?_toArray, List.getElem?_cons_zero, List.getElem?_cons_succ]; exact rfl) (by kernel_rfl) (by kernel_rfl) (by kernel_rfl) (fun _ _ _ h => h) (Or.inl ⟨by rfl, ?q5xy8⟩) (by assumption) ?_; (case q5xy8 => (intro w hSw; (try dsimp only at hSw); go_simp; (try with_reducible rfl))); (try simp only [Act.put, List.setIfInBounds_toArray, List.set_cons_zero, List.set_cons_succ]); refine wpAnyH_done (by kernel_rfl) ?_ _; refine NoPanic.normal ?_)
                have HF := Lib.hid (show lfF T (n : Int) (m + 1) = lfF T (n : Int) m by rw [HSk.out, if_neg (show ¬ (n : Int) < t0 by have := HAt.out; omega), List.append_nil])
                go_wp2_with fail
                go_roundw
                case rel => exact ⟨m + 1, by omega, by go_num, Below.drew HBl.out, by rw [HF.out]; exact own_keep HOl.out (Below.drew (Below.refl wr.heap.size wr))⟩
                case measure => simp [intOf]; omega
            · have hge : ¬ ((T.length : Nat) : Int) < (T.length : Int) := by omega
              have hlf : lfF T (n : Int) T.length = T.filter fun t => decide ((n : Int) < t.at_) := by simp [lfF]
              obtain ⟨Z, hZ⟩ : ∃ Z, Z = lfF T (n : Int) T.length := ⟨_, rfl⟩
              have HZ := Lib.hid (hZ.trans hlf)
              rw [← hZ] at HOl hls ⊢
              have hZm : ∀ t ∈ Z, 0 ≤ t.at_ ∧ t.at_ ≤ 2199023255552 := by
                intro t ht
                rw [HZ.out, HT.out] at ht
                have h1 := HM.out.tm t (List.mem_filter.1 ht).1
                obtain ⟨h4, h5, h6, _⟩ := h1
                omega
              have HZm := Lib.hid hZm
              have HOo := Lib.hid (own_keep HO.out hB)
              have HBw := Lib.hid (HB3.out.trans ((HB.out.trans (hB.mono (by omega))).mono HB3.out.size))
              have hn2 := HN2.out
              have RZ := Lib.hid (RowNew_of_owns HOl.out (by rw [List.length_map]) (lenc_Tm _)).1
              clear hlf hZ hZm hB hOl
              go_wp2_with (go_at_call 22; refine (ref_WheelOf _ n Z _ RZ.out hn2 HZm.out (by omega)).mono ?_; rintro e w7 ⟨v7, rfl, hls7, hb7⟩; obtain ⟨a7, c7, rfl⟩ := LsAt_shape hls7.at_; have HL7 := Lib.hid hls7; have HO7 := Lib.hid (own_keep HOo.out hb7); have g1 := cell_below hb7 g1 (by omega); have g2 := cell_below hb7 g2 (by omega); have f7 : ∀ n, w7.frozen? ⟨w.heap.size + 1, n, none⟩ = false := (fun n => (hb7.frozen (p := ⟨w.heap.size + 1, n, none⟩) (by show w.heap.size + 1 < _; omega)).trans (g3 n)); have HB7 := Lib.hid hb7; clear hls7 hb7)
              obtain ⟨e1, e2, e3, e4⟩ := HA.out.yes HM.out HLt.out
              rw [← HN1.out] at e1 e2 e3
              rw [← HT.out, ← HZ.out] at e2
              rw [← HT.out, ← HXe.out] at e3
              have B8 := Lib.hid (HBw.out.trans (HB7.out.mono (by have := HBw.out.size; omega)))
              have hw8 := HBw.out.size
              subst e1 e2 e3 e4
              refine bodyPost_ret (v := .tuple #[.agg #[.int .i64 (n : Int), .slice a7 (wheelOf (n : Int) Z).length c7], .slice ao X.length co, .int .i64 0]) ?_ rfl ⟨_, _, rfl, ?_, ?_, (B8.out.setCell (by simp) _).setCell (by simp) _⟩
              · simp [results, Try.results13, go_sem, *]
              · exact LsNew_mono (LsNew_setCell (p := ⟨w.heap.size + 1, 1, none⟩) (LsNew_setCell (p := ⟨w.heap.size + 1, 0, none⟩) HL7.out (by show w.heap.size + 1 < _; omega) _) (by show w.heap.size + 1 < _; omega) _) (by omega)
              · refine RowNew_mono (RowNew_of_owns (base := w3.heap.size) (e := 3) (n := X.length) (own_move (w := w7) (by rw [List.map_map]; show w7.ownsRow _ _ _ _ _ (X.map fun t => [Value.int .i64 t.id]).flatten; rw [flat1]; exact HO7.out) (fun b hb => ?_)) (by simp) (by simp)) (by have := HB3.out.size; omega)
                have := HO7.out.lt b hb
                rw [Below.heap_setCell _ _ _ _ (by show b ≠ w.heap.size + 1; omega), Below.heap_setCell _ _ _ _ (by show b ≠ w.heap.size + 1; omega)]
end Go.Proofs.Ythgfiadfpgfjdaa
