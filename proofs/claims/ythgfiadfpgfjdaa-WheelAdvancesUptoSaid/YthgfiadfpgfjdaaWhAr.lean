/- wheel.Arm. -/
import Derived.Test.YthgfiadfpgfjdaaWhCa
import Derived.Test.YthgfiadfpgfjdaaWhPu
namespace Go.Proofs.Ythgfiadfpgfjdaa
open Go.RowKit
/-- What Arm answers (P3.4). -/
def ArmAns (now : Int) (LL : List (List Tm)) (t : Tm) (now' : Int) (LL' : List (List Tm)) (c : Int) : Prop :=
  (¬ WhMay now LL ∧ now' = 0 ∧ LL' = [] ∧ c = 6) ∨
  (WhMay now LL ∧ ¬ TmMay t now ∧ now' = 0 ∧ LL' = [] ∧ c = 2) ∨
  (WhMay now LL ∧ TmMay t now ∧ (∃ s ∈ LL.flatten, s.id = t.id) ∧ now' = 0 ∧ LL' = [] ∧ c = 7) ∨
  (WhMay now LL ∧ TmMay t now ∧ (∀ s ∈ LL.flatten, ¬ s.id = t.id) ∧ now' = now ∧ LL' = wheelOf now (LL.flatten ++ [t]) ∧ c = 0)
section
variable {now : Int} {LL : List (List Tm)} {t : Tm} {now' : Int} {LL' : List (List Tm)} {c : Int}
theorem ArmAns.no (h : ArmAns now LL t now' LL' c) (hm : ¬ WhMay now LL) : now' = 0 ∧ LL' = [] ∧ c = 6 := by
  rcases h with ⟨_, h⟩ | ⟨h, _⟩ | ⟨h, _⟩ | ⟨h, _⟩
  · exact h
  all_goals exact absurd h hm
theorem ArmAns.range (h : ArmAns now LL t now' LL' c) (hm : WhMay now LL) (ht : ¬ TmMay t now) : now' = 0 ∧ LL' = [] ∧ c = 2 := by
  rcases h with ⟨h, _⟩ | ⟨_, _, h⟩ | ⟨_, h, _⟩ | ⟨_, h, _⟩
  · exact absurd hm h
  · exact h
  all_goals exact absurd h ht
theorem ArmAns.twice (h : ArmAns now LL t now' LL' c) (hm : WhMay now LL) (ht : TmMay t now) (hs : ∃ s ∈ LL.flatten, s.id = t.id) : now' = 0 ∧ LL' = [] ∧ c = 7 := by
  rcases h with ⟨h, _⟩ | ⟨_, h, _⟩ | ⟨_, _, _, h⟩ | ⟨_, _, h, _⟩
  · exact absurd hm h
  · exact absurd ht h
  · exact h
  · obtain ⟨s, h1, h2⟩ := hs; exact absurd h2 (h s h1)
theorem ArmAns.yes (h : ArmAns now LL t now' LL' c) (hm : WhMay now LL) (ht : TmMay t now) (hs : ∀ s ∈ LL.flatten, ¬ s.id = t.id) : now' = now ∧ LL' = wheelOf now (LL.flatten ++ [t]) ∧ c = 0 := by
  rcases h with ⟨h, _⟩ | ⟨_, h, _⟩ | ⟨_, _, h, _⟩ | ⟨_, _, _, h⟩
  · exact absurd hm h
  · exact absurd ht h
  · obtain ⟨s, h1, h2⟩ := h; exact absurd h2 (hs s h1)
  · exact h
end
/-- The wheel with one timer more. -/
theorem wh_more {now : Int} {LL : List (List Tm)} (h : WhMay now LL) (t : Tm) : LL.set (plc t now) (srtT (LL.getD (plc t now) [] ++ [t])) = wheelOf now (LL.flatten ++ [t]) := by
  have hl := h.2.2.1
  have hp : plc t now < 25 := placeN_lt _ _
  have hat : ∀ i, i < 25 → LL.flatten.filter (fun t => plc t now == i) = LL.getD i [] := fun i hi => at_place hl (fun i hi t ht => ((h.2.2.2.1 i hi).1 t ht).2) hi
  refine lists_ext (by simp [hl]) (wheelOf_len _ _) (fun i hi => ?_)
  rw [wheelOf_get _ _ hi, List.filter_append, hat i hi]
  by_cases e : plc t now = i
  · subst e
    rw [getD_set_eq (by omega)]
    simp
  · rw [getD_set_ne e]
    have : (plc t now == i) = false := by simpa using e
    simp only [List.filter_cons, this, List.filter_nil]
    rw [if_neg (by simp), List.append_nil]
    exact (srtT_id (h.2.2.2.1 i hi).2).symm
set_option maxHeartbeats 4000000 in
set_option maxRecDepth 100000 in
theorem prog_Arm (lv : Value) (now : Int) (LL : List (List Tm)) (id at_ : Int) (w : World) (r : LsAt w lv LL) (hn : LL.length ≤ 1048576) (hs : LL.flatten.length ≤ 1048576) (now' : Int) (LL' : List (List Tm)) (c : Int) (ha : ArmAns now LL ⟨at_, id⟩ now' LL' c) :
    Calls Try.prog 7 #[.agg #[.int .i64 now, lv], .int .i64 id, .int .i64 at_] w (WhAns w now' LL' c) := by
  obtain ⟨a, cp, rfl⟩ := LsAt_shape r
  have R2 := Lib.hid (LsAt_below r ((Below.alloc (Below.refl _ _) (Nat.le_refl _) (.cells #[.int .i64 now, .slice a LL.length cp] 24)).alloc (by simp) (.cells #[.int .i64 0, .slice none 0 0] 24)))
  have HS := Lib.hid (fun k (h : k < LL.length) => Nat.le_trans (sum_mem_le h) hs)
  have HA := Lib.hid ha
  clear r hs ha
  go_enter Try.func7, Try.ntmps7
  go_wp2_with (go_at_call 15; refine (prog_open _ now LL _ R2.out (by omega) (fun i hi => by have := HS.out i hi; omega)).mono ?_)
  rintro e w1 (⟨q, vl, V, rfl, hm, hq, hq2, hqb, hown, hb1⟩ | ⟨rfl, hm, hb1⟩)
  rotate_left
  · obtain ⟨rfl, rfl, rfl⟩ := HA.out.no hm
    obtain ⟨hc1, hf1⟩ := bcell hb1
    go_wp2
    refine bodyPost_ret (v := .tuple #[.agg #[.int .i64 0, .slice none 0 0], .int .i64 6]) ?_ rfl (WhAns.nil (by repeat (first | (with_reducible exact Below.refl _ _) | (with_reducible assumption) | (with_reducible refine Below.drew ?_) | (with_reducible refine Below_drewN ?_) | (with_reducible refine Below.alloc ?_ (by first | omega | (simp; done) | (simp; omega)) _) | (with_reducible refine Below.setCell ?_ (by first | omega | (simp; done) | (simp; omega)) _) | (with_reducible refine Below.trans ?_ (Below.mono (by assumption) (by first | omega | (simp; done) | (simp; omega)))))))
    simp [results, Try.results7, go_sem, *]
  · have h25 := hm.2.2.1
    have h0 := hm.1
    have h1 := hm.2.1
    have HM := Lib.hid hm
    have HW := Lib.hid hqb
    have HO := Lib.hid hown
    have HB1 : Hid (Below w.heap.size w w1) := Below.trans ((by repeat (first | (with_reducible exact Below.refl _ _) | (with_reducible assumption) | (with_reducible refine Below.drew ?_) | (with_reducible refine Below_drewN ?_) | (with_reducible refine Below.alloc ?_ (by first | omega | (simp; done) | (simp; omega)) _) | (with_reducible refine Below.setCell ?_ (by first | omega | (simp; done) | (simp; omega)) _) | (with_reducible refine Below.trans ?_ (Below.mono (by assumption) (by first | omega | (simp; done) | (simp; omega)))))) : Below w.heap.size w _) (hb1.mono (by simp; omega))
    have hz1 := hb1.size
    have x0 : w1.cell? ⟨q, 0, none⟩ = some (.int .i64 now) := blk_cell hqb 0
    have x1 : w1.cell? ⟨q, 1, none⟩ = some vl := blk_cell hqb 1
    simp at hq hz1
    have y0 : w1.cell? ⟨w.heap.size + 1, 0, none⟩ = some (.int .i64 0) := cell_below hb1 (by go_simp) (by simp)
    have y1 : w1.cell? ⟨w.heap.size + 1, 1, none⟩ = some (.slice none 0 0) := cell_below hb1 (by go_simp) (by simp)
    have y2 : w1.cell? ⟨w.heap.size, 0, none⟩ = some (.int .i64 now) := cell_below hb1 (by go_simp) (by simp; omega)
    have f0 : ∀ n, w1.frozen? ⟨w.heap.size + 1, n, none⟩ = false := fun n => (hb1.frozen (p := ⟨w.heap.size + 1, n, none⟩) (by simp)).trans (by go_simp)
    have HLn := Lib.hid h25
    have HSz := Lib.hid (fun i (h : i < LL.length) => Nat.le_trans (HS.out i h) (Nat.le_refl 1048576))
    clear hm hqb hown hb1
    have k1 : w.heap.size < w1.heap.size := by omega
    have k2 : w.heap.size + 1 < w1.heap.size := by omega
    by_cases htm : TmMay ⟨at_, id⟩ now
    rotate_left
    · obtain ⟨rfl, rfl, rfl⟩ := HA.out.range HM.out htm
      have HT := Lib.hid htm
      clear htm
      go_wp2_with (go_at_call 16; refine (prog_fits ⟨at_, id⟩ now _ h0 h1 false (Or.inr ⟨HT.out, rfl⟩)).mono ?_; rintro e w2 ⟨rfl, hb2⟩; obtain ⟨hc2, hf2⟩ := bcell hb2)
      refine bodyPost_ret (v := .tuple #[.agg #[.int .i64 0, .slice none 0 0], .int .i64 2]) ?_ rfl (WhAns.nil ?_)
      · simp [results, Try.results7, go_sem, *]
      · have b2 : Below w1.heap.size w1 w2 := Below.trans ((by repeat (first | (with_reducible exact Below.refl _ _) | (with_reducible assumption) | (with_reducible refine Below.drew ?_) | (with_reducible refine Below_drewN ?_) | (with_reducible refine Below.alloc ?_ (by first | omega | (simp; done) | (simp; omega)) _) | (with_reducible refine Below.setCell ?_ (by first | omega | (simp; done) | (simp; omega)) _) | (with_reducible refine Below.trans ?_ (Below.mono (by assumption) (by first | omega | (simp; done) | (simp; omega)))))) : Below w1.heap.size w1 _) (hb2.mono (by simp))
        exact ((HB1.out.trans (b2.mono HB1.out.size)).setCell (by simp) _).setCell (by simp) _
    · have HT := Lib.hid htm
      clear htm
      go_wp2_with (go_at_call 16; refine (prog_fits ⟨at_, id⟩ now _ h0 h1 true (Or.inl ⟨HT.out, rfl⟩)).mono ?_; rintro e w2 ⟨rfl, hb2⟩; obtain ⟨hc2, hf2⟩ := bcell hb2)
      have b2 : Below w1.heap.size w1 w2 := Below.trans ((by repeat (first | (with_reducible exact Below.refl _ _) | (with_reducible assumption) | (with_reducible refine Below.drew ?_) | (with_reducible refine Below_drewN ?_) | (with_reducible refine Below.alloc ?_ (by first | omega | (simp; done) | (simp; omega)) _) | (with_reducible refine Below.setCell ?_ (by first | omega | (simp; done) | (simp; omega)) _) | (with_reducible refine Below.trans ?_ (Below.mono (by assumption) (by first | omega | (simp; done) | (simp; omega)))))) : Below w1.heap.size w1 _) (hb2.mono (by simp))
      have s2 := hb2.size
      simp at s2
      have u0 : w2.cell? ⟨w1.heap.size, 0, none⟩ = some (.int .i64 at_) := cell_below hb2 (by go_simp) (by simp)
      have u1 : w2.cell? ⟨w1.heap.size, 1, none⟩ = some (.int .i64 id) := cell_below hb2 (by go_simp) (by simp)
      have x0 := cell_below' b2 x0
      have x1 := cell_below' b2 x1
      have y0 := cell_below' b2 y0
      have y1 := cell_below' b2 y1
      have f0 : ∀ n, w2.frozen? ⟨w.heap.size + 1, n, none⟩ = false := fun n => (b2.frozen (p := ⟨w.heap.size + 1, n, none⟩) (by simp; omega)).trans (f0 n)
      have HB2 := Lib.hid (HB1.out.trans (b2.mono HB1.out.size))
      have HW2 := Lib.hid ((b2.block q hq2).trans HW.out)
      have HO2 := Lib.hid (OwnLs_below HO.out b2)
      clear hb2 hc2 hf2 b2 HW HO
      go_wp2_with (go_at_call 17; refine (prog_whfind q now vl id LL _ HW2.out (OwnLs_new HO2.out).at_ HSz.out).mono ?_)
      rintro e w3 (⟨rfl, hnone, hb3⟩ | ⟨i, k, rfl, hi, hk, hid, hb3⟩)
      rotate_left
      · obtain ⟨rfl, rfl, rfl⟩ := HA.out.twice HM.out HT.out ⟨_, mem_flat.2 ⟨i, hi, tm_mem rfl hk⟩, hid⟩
        have y0 := cell_below' hb3 y0
        have y1 := cell_below' hb3 y1
        have f0 : ∀ n, w3.frozen? ⟨w.heap.size + 1, n, none⟩ = false := fun n => (hb3.frozen (p := ⟨w.heap.size + 1, n, none⟩) (by simp; omega)).trans (f0 n)
        have HB3 := Lib.hid (HB2.out.trans (hb3.mono HB2.out.size))
        have i0 : (0 : Int) ≤ (i : Int) := by omega
        clear hid hk hi
        go_wp2
        refine bodyPost_ret (v := .tuple #[.agg #[.int .i64 0, .slice none 0 0], .int .i64 7]) ?_ rfl (WhAns.nil ((HB3.out.setCell (by simp) _).setCell (by simp) _))
        simp [results, Try.results7, go_sem, *]
      · obtain ⟨rfl, rfl, rfl⟩ := HA.out.yes HM.out HT.out (fun t ht => by obtain ⟨m, hm, ht⟩ := mem_flat.1 ht; exact hnone m hm t ht)
        obtain ⟨N, rfl⟩ := Int.eq_ofNat_of_zero_le h0
        obtain ⟨A, rfl⟩ := Int.eq_ofNat_of_zero_le (show 0 ≤ at_ by have := HT.out.1; simp at this; omega)
        have hA2 : A ≤ 2199023255552 := by have := HT.out.2.2.1; simp at this; omega
        have hN2 : N ≤ 2199023255552 := by omega
        have HE := Lib.hid (wh_more HM.out ⟨(A : Int), id⟩)
        have hord := (HM.out.2.2.2.1 (placeN A N) (placeN_lt A N)).2
        have hlen : (LL.getD (placeN A N) []).length ≤ 100000 := by
          have h1 := HM.out.tot
          have h2 := sum_mem_le (LL := LL) (k := placeN A N) (by have := placeN_lt A N; omega)
          omega
        have HOrd := Lib.hid hord
        have HLen := Lib.hid hlen
        have x0 := cell_below' hb3 x0
        have x1 := cell_below' hb3 x1
        have y0 := cell_below' hb3 y0
        have y1 := cell_below' hb3 y1
        have u0 := cell_below' hb3 u0
        have u1 := cell_below' hb3 u1
        have f0 : ∀ n, w3.frozen? ⟨w.heap.size + 1, n, none⟩ = false := fun n => (hb3.frozen (p := ⟨w.heap.size + 1, n, none⟩) (by simp; omega)).trans (f0 n)
        have s3 := hb3.size
        have HB3 := Lib.hid (HB2.out.trans (hb3.mono HB2.out.size))
        have HW3 := Lib.hid ((hb3.block q (by omega)).trans HW2.out)
        have HO3 := Lib.hid (OwnLs_below HO2.out hb3)
        obtain ⟨av, cv, rfl⟩ := LsAt_shape (OwnLs_new HO3.out).at_
        clear hb3 hnone hord hlen HW2 HO2
        go_wp2_with (go_at_call 18; refine (prog_put q A N id _ LL V _ HW3.out HO3.out HLn.out hA2 hN2 _ rfl HOrd.out HLen.out).mono ?_; rintro e w4 ⟨v4, rfl, hown4, hz4, _, _, hb4⟩; have x0 := hb4.cell (p := ⟨q, 0, none⟩) (by simp) |>.trans x0; have x1 := hb4.cell (p := ⟨q, 1, none⟩) (by simp) |>.trans x1; have y0 := hb4.cell (p := ⟨w.heap.size + 1, 0, none⟩) (by simp; omega) |>.trans y0; have y1 := hb4.cell (p := ⟨w.heap.size + 1, 1, none⟩) (by simp; omega) |>.trans y1; have f0 : ∀ n, w4.frozen? ⟨w.heap.size + 1, n, none⟩ = false := (fun n => (hb4.frozen (p := ⟨w.heap.size + 1, n, none⟩) (by simp; omega)).trans (f0 n)); have HB4 := Lib.hid (HB3.out.trans (hb4.mono (by omega))); have HO4 := Lib.hid hown4; clear hown4 hb4)
        refine bodyPost_ret (v := .tuple #[.agg #[.int .i64 (N : Int), .slice av LL.length cv], .int .i64 0]) ?_ rfl ⟨_, rfl, ?_, (HB4.out.setCell (by simp) _).setCell (by simp) _⟩
        · simp [results, Try.results7, go_sem, *]
        · have e : plc ⟨(A : Int), id⟩ (N : Int) = placeN A N := plc_nat rfl rfl
          rw [← HE.out, e]
          refine LsNew_mono (OwnLs_new (OwnLs_move HO4.out fun b h1 h2 => ?_)) (B := q + 1) (by omega)
          rw [Below.heap_setCell _ _ _ _ (by simp; omega), Below.heap_setCell _ _ _ _ (by simp; omega)]
end Go.Proofs.Ythgfiadfpgfjdaa
