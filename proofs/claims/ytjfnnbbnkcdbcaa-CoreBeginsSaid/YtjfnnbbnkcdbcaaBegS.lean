/- usherlaw.sameWorld on two worlds that have begun. -/
import Derived.Test.YtjfnnbbnkcdbcaaBegW
import Derived.Test.YtjfnnbbnkcdbcaaSameTable
import Derived.Test.YtjfnnbbnkcdbcaaOwn
import Derived.Test.YtjfnnbbnkcdbcaaSameBools
import Derived.Deep.RegionWith
import Derived.Deep.RegionHeld3
namespace Go.Proofs.Ytjfnnbbnkcdbcaa
open Go.RowKit

set_option maxHeartbeats 1000000 in
set_option maxRecDepth 100000 in
theorem sameHealth_z (w : World) :
    Calls Try.prog 49 #[.agg #[.slice none 0 0, .bool false, .int .i64 0, .int .i64 0], .agg #[.slice none 0 0, .bool false, .int .i64 0, .int .i64 0]] w fun e w' => e = .returned (.bool true) ∧ Below w.heap.size w w' := by
  go_enter Try.func49, Try.ntmps49
  go_wp2_with fail
  refine (sameBools_yes _ _ [] _ (RowAt_nil _ 1) (RowAt_nil _ 1)).mono ?_
  rintro e w1 ⟨rfl, hb1⟩
  go_wp2
  all_goals first | (go_ret; exact ⟨rfl, (by repeat (first | (with_reducible exact Below.refl _ _) | (with_reducible assumption) | (with_reducible refine Below.drew ?_) | (with_reducible refine Below_drewN ?_) | (with_reducible refine Below.alloc ?_ (by first | omega | (simp; done) | (simp; omega)) _) | (with_reducible refine Below.setCell ?_ (by first | omega | (simp; done) | (simp; omega)) _) | (with_reducible refine Below.trans ?_ (Below.mono (by assumption) (by first | omega | (simp; done) | (simp; omega))))))⟩) | (exfalso; first | omega | (simp at *; omega) | (simp at *; done))
set_option maxHeartbeats 1000000 in
set_option maxRecDepth 100000 in
theorem SameRing_z (w : World) : Calls Try.prog 52 #[.agg #[.slice none 0 0], .agg #[.slice none 0 0]] w fun e w' => e = .returned (.bool true) ∧ Below w.heap.size w w' := by
  go_enter Try.func52, Try.ntmps52
  go_wp2
  refine wp_loop_rounds 1 ?_
  rw [rounds_succ]
  go_wp2
  all_goals first | (go_ret; exact ⟨rfl, (by repeat (first | (with_reducible exact Below.refl _ _) | (with_reducible assumption) | (with_reducible refine Below.drew ?_) | (with_reducible refine Below_drewN ?_) | (with_reducible refine Below.alloc ?_ (by first | omega | (simp; done) | (simp; omega)) _) | (with_reducible refine Below.setCell ?_ (by first | omega | (simp; done) | (simp; omega)) _) | (with_reducible refine Below.trans ?_ (Below.mono (by assumption) (by first | omega | (simp; done) | (simp; omega))))))⟩) | (exfalso; first | omega | (simp at *; omega) | (simp at *; done))
set_option maxHeartbeats 1000000 in
set_option maxRecDepth 100000 in
theorem sameBook_z (w : World) : Calls Try.prog 51 #[.agg #[.slice none 0 0, .slice none 0 0], .agg #[.slice none 0 0, .slice none 0 0]] w fun e w' => e = .returned (.bool true) ∧ Below w.heap.size w w' := by
  go_enter Try.func51, Try.ntmps51
  go_wp2
  refine wp_loop_rounds 1 ?_
  rw [rounds_succ]
  go_wp2
  refine wp_loop_rounds 1 ?_
  rw [rounds_succ]
  go_wp2
  all_goals first | (go_ret; exact ⟨rfl, (by repeat (first | (with_reducible exact Below.refl _ _) | (with_reducible assumption) | (with_reducible refine Below.drew ?_) | (with_reducible refine Below_drewN ?_) | (with_reducible refine Below.alloc ?_ (by first | omega | (simp; done) | (simp; omega)) _) | (with_reducible refine Below.setCell ?_ (by first | omega | (simp; done) | (simp; omega)) _) | (with_reducible refine Below.trans ?_ (Below.mono (by assumption) (by first | omega | (simp; done) | (simp; omega))))))⟩) | (exfalso; first | omega | (simp at *; omega) | (simp at *; done))
set_option maxHeartbeats 8000000 in
set_option maxRecDepth 100000 in
theorem sameWorld_beg (flows num den tries warm drain idle connect retries most bn bd bb ww wf wh : Int) (vt1 vh1 vl1 vt2 vh2 vl2 : Value) (bk : Int) (n : Nat) (w : World) (t1 : RowAt w 4 vt1 ((zeros n).map Sl.cells)) (t2 : RowAt w 4 vt2 ((zeros n).map Sl.cells)) (h1 : RowAt w 4 vh1 (hnils 12)) (h2 : RowAt w 4 vh2 (hnils 12)) (l1 : RowAt w 1 vl1 (nils 25)) (l2 : RowAt w 1 vl2 (nils 25)) :
    Calls Try.prog 21 #[.agg (wArr flows num den tries warm drain idle connect retries most bn bd bb ww wf wh vt1 vh1 bk vl1), .agg (wArr flows num den tries warm drain idle connect retries most bn bd bb ww wf wh vt2 vh2 bk vl2)] w fun e w' => e = .returned (.bool true) ∧ Below w.heap.size w w' := by
  have T1 := Lib.hid t1
  have T2 := Lib.hid t2
  have L1 := Lib.hid l1
  have L2 := Lib.hid l2
  obtain ⟨at1, ct1, rfl, _⟩ := RowAt_shape t1
  obtain ⟨at2, ct2, rfl, _⟩ := RowAt_shape t2
  obtain ⟨al1, cl1, rfl, _⟩ := RowAt_cells l1
  obtain ⟨al2, cl2, rfl, _⟩ := RowAt_cells l2
  have el1 : (zeros n).length = n := by simp [zeros]
  have el2 : (nils 25).length = 25 := by simp [nils]
  simp only [el1, el2] at T1 T2 L1 L2 ⊢
  clear el1 el2
  obtain ⟨ah1, ch1, rfl, _, _, _, p1⟩ := h1
  obtain ⟨ah2, ch2, rfl, _, _, _, p2⟩ := h2
  have hne : hnils 12 ≠ [] := by intro h; have := hnils_length 12; rw [h] at this; cases this
  obtain ⟨b1, o1, rfl, lb1, q1⟩ := p1 hne
  obtain ⟨b2, o2, rfl, lb2, q2⟩ := p2 hne
  rw [hnils_length] at q1 q2 ⊢
  have Q1 : Hid (∀ i, i < 12 → w.cell? ⟨b1, o1 + i * 4, none⟩ = some (.slice none 0 0) ∧ w.cell? ⟨b1, o1 + i * 4 + 1, none⟩ = some (.bool false) ∧ w.cell? ⟨b1, o1 + i * 4 + 2, none⟩ = some (.int .i64 0) ∧ w.cell? ⟨b1, o1 + i * 4 + 3, none⟩ = some (.int .i64 0)) := by
    intro i hi
    have g := hnils_get 12 i hi
    refine ⟨?_, ?_, ?_, ?_⟩
    · have := q1 i 0 hi (by omega); rw [g] at this; simpa using this
    · have := q1 i 1 hi (by omega); rw [g] at this; simpa using this
    · have := q1 i 2 hi (by omega); rw [g] at this; simpa using this
    · have := q1 i 3 hi (by omega); rw [g] at this; simpa using this
  have Q2 : Hid (∀ i, i < 12 → w.cell? ⟨b2, o2 + i * 4, none⟩ = some (.slice none 0 0) ∧ w.cell? ⟨b2, o2 + i * 4 + 1, none⟩ = some (.bool false) ∧ w.cell? ⟨b2, o2 + i * 4 + 2, none⟩ = some (.int .i64 0) ∧ w.cell? ⟨b2, o2 + i * 4 + 3, none⟩ = some (.int .i64 0)) := by
    intro i hi
    have g := hnils_get 12 i hi
    refine ⟨?_, ?_, ?_, ?_⟩
    · have := q2 i 0 hi (by omega); rw [g] at this; simpa using this
    · have := q2 i 1 hi (by omega); rw [g] at this; simpa using this
    · have := q2 i 2 hi (by omega); rw [g] at this; simpa using this
    · have := q2 i 3 hi (by omega); rw [g] at this; simpa using this
  clear t1 t2 l1 l2 p1 p2 q1 q2 hne
  unfold wArr
  go_enter Try.func21, Try.ntmps21
  go_wp2
  refine wp_loop_rounds 1 ?_
  rw [rounds_succ]
  go_wp2
  go_loopw [6] (fun i wr => ∃ k : Nat, k ≤ 12 ∧ i = .int .i64 k ∧ Below w.heap.size w wr ∧ wr.heap[w.heap.size]? = some (.cells (wArr flows num den tries warm drain idle connect retries most bn bd bb ww wf wh (.slice at1 n ct1) (.slice (some ⟨b1, o1, none⟩) 12 ch1) bk (.slice al1 25 cl1)) 61 (0, 0)) ∧ wr.heap[w.heap.size + 1]? = some (.cells (wArr flows num den tries warm drain idle connect retries most bn bd bb ww wf wh (.slice at2 n ct2) (.slice (some ⟨b2, o2, none⟩) 12 ch2) bk (.slice al2 25 cl2)) 61 (0, 0))) (fun i _ => 12 - (intOf i).toNat)
  case atStart => exact ⟨0, Nat.zero_le _, rfl, ((Below.refl _ _).alloc (Nat.le_refl _) _).alloc (by simp) _, (Below.heap_alloc (w := World.alloc w _) _ _ (by simp)).trans (heap_at (w := w) _ rfl), heap_at (w := World.alloc w _) (k := w.heap.size + 1) _ (by simp)⟩
  case round =>
    obtain ⟨k, hk, rfl, hbel, x1, x2⟩ := hrel
    have X1 := Lib.hid x1
    have X2 := Lib.hid x2
    have HB := Lib.hid hbel
    have z1 := lt_of_block x1
    have z2 := lt_of_block x2
    rcases (show k < 12 ∨ k = 12 by omega) with hlt | rfl
    · have hlt' : (k : Int) < 12 := by omega
      have d22 := blk_cell x1 22
      simp only [wArr, List.getElem?_toArray, List.getElem?_cons_succ, List.getElem?_cons_zero] at d22
      have e22 := blk_cell x2 22
      simp only [wArr, List.getElem?_toArray, List.getElem?_cons_succ, List.getElem?_cons_zero] at e22
      obtain ⟨g0, g1, g2, g3⟩ := Q1.out k hlt
      obtain ⟨f0, f1, f2, f3⟩ := Q2.out k hlt
      have y0 := (hbel.cell (p := ⟨b1, _, none⟩) lb1).trans g0
      have y1 := (hbel.cell (p := ⟨b1, _, none⟩) lb1).trans g1
      have y2 := (hbel.cell (p := ⟨b1, _, none⟩) lb1).trans g2
      have y3 := (hbel.cell (p := ⟨b1, _, none⟩) lb1).trans g3
      have u0 := (hbel.cell (p := ⟨b2, _, none⟩) lb2).trans f0
      have u1 := (hbel.cell (p := ⟨b2, _, none⟩) lb2).trans f1
      have u2 := (hbel.cell (p := ⟨b2, _, none⟩) lb2).trans f2
      have u3 := (hbel.cell (p := ⟨b2, _, none⟩) lb2).trans f3
      clear x1 x2 hbel g0 g1 g2 g3 f0 f1 f2 f3
      go_wp2_with fail
      (refine wp_region_noPanic ?_; refine wp_region_held_drew (S := (fun w' => w'.cell? ⟨w.heap.size, 22, none⟩ = some (.slice (some ⟨b1, o1, none⟩) 12 ch1) ∧ w'.cell? ⟨w.heap.size + 1, 22, none⟩ = some (.slice (some ⟨b2, o2, none⟩) 12 ch2) ∧ w'.cell? ⟨b1, o1 + k * 4, none⟩ = some (.slice none 0 0) ∧ w'.cell? ⟨b1, o1 + k * 4 + 1, none⟩ = some (.bool false) ∧ w'.cell? ⟨b1, o1 + k * 4 + 2, none⟩ = some (.int .i64 0) ∧ w'.cell? ⟨b1, o1 + k * 4 + 3, none⟩ = some (.int .i64 0) ∧ w'.cell? ⟨b2, o2 + k * 4, none⟩ = some (.slice none 0 0) ∧ w'.cell? ⟨b2, o2 + k * 4 + 1, none⟩ = some (.bool false) ∧ w'.cell? ⟨b2, o2 + k * 4 + 2, none⟩ = some (.int .i64 0) ∧ w'.cell? ⟨b2, o2 + k * 4 + 3, none⟩ = some (.int .i64 0))) (by kernel_rfl) ?q1xb (fun hHeld => ?_); (case q1xb => ((try dsimp only); ((go_split_ands; (try dsimp only); (repeat' apply And.intro); all_goals (repeat (first | with_reducible assumption | (with_reducible refine (cell_set_ne ?_).trans ?_; omega) | (with_reducible refine cell_alloc _ ?_) | (with_reducible refine cell_drew ?_) | (with_reducible refine cell_below' hb9 ?_))))))); refine wpAnyH_take (i := 0) (v := ?q1xv0) (by simp only [List.getElem?_toArray, List.getElem?_cons_zero]; exact rfl) (by kernel_rfl) (by kernel_rfl) (by kernel_rfl) (fun _ _ _ h => h) (Or.inl ⟨by rfl, ?q1xy0⟩) (by assumption) ?_; (case q1xy0 => (intro w hSw; (try dsimp only at hSw); go_simp; (try with_reducible rfl))); (try simp only [Act.put, List.setIfInBounds_toArray, List.set_cons_zero, List.set_cons_succ]); refine wpAnyH_take (i := 1) (v := ?q1xv1) (by simp only [List.getElem?_toArray, List.getElem?_cons_zero, List.getElem?_cons_succ]; exact rfl) (by kernel_rfl) (by kernel_rfl) (by kernel_rfl) (fun _ _ _ h => h) (Or.inl ⟨by rfl, ?q1xy1⟩) (by assumption) ?_; (case q1xy1 => (intro w hSw; (try dsimp only at hSw); go_simp; (try with_reducible rfl))); (try simp only [Act.put, List.setIfInBounds_toArray, List.set_cons_zero, List.set_cons_succ]); refine wpAnyH_take (i := 2) (v := ?q1xv2) (by simp only [List.getElem?_toArray, List.getElem?_cons_zero, List.getElem?_cons_succ]; exact rfl) (by kernel_rfl) (by kernel_rfl) (by kernel_rfl) (fun _ _ _ h => h) (Or.inl ⟨by rfl, ?q1xy2⟩) (by assumption) ?_; (case q1xy2 => (intro w hSw; (try dsimp only at hSw); go_simp; (try with_reducible rfl))); (try simp only [Act.put, List.setIfInBounds_toArray, List.set_cons_zero, List.set_cons_succ]); refine wpAnyH_take (i := 3) (v := ?q1xv3) (by simp only [List.getElem?_toArray, List.getElem?_cons_zero, List.getElem?_cons_succ]; exact rfl) (by kernel_rfl) (by kernel_rfl) (by kernel_rfl) (fun _ _ _ h => h) (Or.inl ⟨by rfl, ?q1xy3⟩) (by assumption) ?_; (case q1xy3 => (intro w hSw; (try dsimp only at hSw); go_simp; (try with_reducible rfl))); (try simp only [Act.put, List.setIfInBounds_toArray, List.set_cons_zero, List.set_cons_succ]); refine wpAnyH_take (i := 4) (v := ?q1xv4) (by simp only [List.getElem?_toArray, List.getElem?_cons_zero, List.getElem?_cons_succ]; exact rfl) (by kernel_rfl) (by kernel_rfl) (by kernel_rfl) (fun _ _ _ h => h) (Or.inl ⟨by rfl, ?q1xy4⟩) (by assumption) ?_; (case q1xy4 => (intro w hSw; (try dsimp only at hSw); go_simp; (try with_reducible rfl))); (try simp only [Act.put, List.setIfInBounds_toArray, List.set_cons_zero, List.set_cons_succ]); refine wpAnyH_take (i := 5) (v := ?q1xv5) (by simp only [List.getElem?_toArray, List.getElem?_cons_zero, List.getElem?_cons_succ]; exact rfl) (by kernel_rfl) (by kernel_rfl) (by kernel_rfl) (fun _ _ _ h => h) (Or.inl ⟨by rfl, ?q1xy5⟩) (by assumption) ?_; (case q1xy5 => (intro w hSw; (try dsimp only at hSw); go_simp; (try with_reducible rfl))); (try simp only [Act.put, List.setIfInBounds_toArray, List.set_cons_zero, List.set_cons_succ]); refine wpAnyH_take (i := 6) (v := ?q1xv6) (by simp only [List.getElem?_toArray, List.getElem?_cons_zero, List.getElem?_cons_succ]; exact rfl) (by kernel_rfl) (by kernel_rfl) (by kernel_rfl) (fun _ _ _ h => h) (Or.inl ⟨by rfl, ?q1xy6⟩) (by assumption) ?_; (case q1xy6 => (intro w hSw; (try dsimp only at hSw); go_simp; (try with_reducible rfl))); (try simp only [Act.put, List.setIfInBounds_toArray, List.set_cons_zero, List.set_cons_succ]); refine wpAnyH_take (i := 7) (v := ?q1xv7) (by simp only [List.getElem?_toArray, List.getElem?_cons_zero, List.getElem?_cons_succ]; exact rfl) (by kernel_rfl) (by kernel_rfl) (by kernel_rfl) (fun _ _ _ h => h) (Or.inl ⟨by rfl, ?q1xy7⟩) (by assumption) ?_; (case q1xy7 => (intro w hSw; (try dsimp only at hSw); go_simp; (try with_reducible rfl))); (try simp only [Act.put, List.setIfInBounds_toArray, List.set_cons_zero, List.set_cons_succ]); refine wpAnyH_take (i := 8) (v := ?q1xv8) (by simp only [List.getElem?_toArray, List.getElem?_cons_zero, List.getElem?_cons_succ]; exact rfl) (by kernel_rfl) (by kernel_rfl) (by kernel_rfl) (fun _ _ _ h => h) (Or.inl ⟨by rfl, ?q1xy8⟩) (by assumption) ?_; (case q1xy8 => (intro w hSw; (try dsimp only at hSw); go_simp; (try with_reducible rfl))); (try simp only [Act.put, List.setIfInBounds_toArray, List.set_cons_zero, List.set_cons_succ]); refine wpAnyH_take (i := 9) (v := ?q1xv9) (by simp only [List.getElem?_toArray, List.getElem?_cons_zero, List.getElem?_cons_succ]; exact rfl) (by kernel_rfl) (by kernel_rfl) (by kernel_rfl) (fun _ _ _ h => h) (Or.inl ⟨by rfl, ?q1xy9⟩) (by assumption) ?_; (case q1xy9 => (intro w hSw; (try dsimp only at hSw); go_simp; (try with_reducible rfl))); (try simp only [Act.put, List.setIfInBounds_toArray, List.set_cons_zero, List.set_cons_succ]); refine wpAnyH_ready (rs := [10]) (by kernel_rfl) (by simp) ?_; refine AllReadyH.cons (by simp only [List.getElem?_toArray, List.getElem?_cons_zero, List.getElem?_cons_succ]; exact rfl) (fun K hK => ?_) AllReadyH.nil; go_simp; (go_at_call 49; refine (sameHealth_z _).mono ?_; rintro e w9 ⟨rfl, hb9⟩); (try go_wp2_with fail); refine hK.out _ _ ?q1xs10 (fun hHeld => ?_); (case q1xs10 => ((try dsimp only); ((go_split_ands; (try dsimp only); (repeat' apply And.intro); all_goals (repeat (first | with_reducible assumption | (with_reducible refine (cell_set_ne ?_).trans ?_; omega) | (with_reducible refine cell_alloc _ ?_) | (with_reducible refine cell_drew ?_) | (with_reducible refine cell_below' hb9 ?_))))))); clear hK K; (try simp only [Act.put, List.setIfInBounds_toArray, List.set_cons_zero, List.set_cons_succ]); refine wpAnyH_take (i := 11) (v := ?q1xv11) (by simp only [List.getElem?_toArray, List.getElem?_cons_zero, List.getElem?_cons_succ]; exact rfl) (by kernel_rfl) (by kernel_rfl) (by kernel_rfl) (fun _ _ _ h => h) (Or.inl ⟨by rfl, ?q1xy11⟩) (by assumption) ?_; (case q1xy11 => (intro w hSw; (try dsimp only at hSw); go_simp; (try with_reducible rfl))); (try simp only [Act.put, List.setIfInBounds_toArray, List.set_cons_zero, List.set_cons_succ]); refine wpAnyH_done (by kernel_rfl) ?_ _; refine NoPanic.normal ?_)
      have hw9 := hb9.size
      have X1' := Lib.hid (blk_below hb9 X1.out (by simpa using z1))
      have X2' := Lib.hid (blk_below hb9 X2.out (by simpa using z2))
      have HB' := Lib.hid (HB.out.trans ((Below.refl _ _).drew.trans (hb9.mono (by simp; omega))))
      go_wp2
      go_roundw
      case rel => exact ⟨k + 1, by omega, by go_num, HB'.out, X1'.out, X2'.out⟩
      case measure => simp [intOf]; omega
    · clear hk hbel
      have d22 := blk_cell x1 22
      have d17 := blk_cell x1 17
      have d19 := blk_cell x1 19
      have d20 := blk_cell x1 20
      have d21 := blk_cell x1 21
      have d24 := blk_cell x1 24
      have d25 := blk_cell x1 25
      simp only [wArr, List.getElem?_toArray, List.getElem?_cons_succ, List.getElem?_cons_zero] at d22 d17 d19 d20 d21 d24 d25
      have e22 := blk_cell x2 22
      have e17 := blk_cell x2 17
      have e19 := blk_cell x2 19
      have e20 := blk_cell x2 20
      have e21 := blk_cell x2 21
      have e24 := blk_cell x2 24
      have e25 := blk_cell x2 25
      simp only [wArr, List.getElem?_toArray, List.getElem?_cons_succ, List.getElem?_cons_zero] at e22 e17 e19 e20 e21 e24 e25
      clear x1 x2
      have B0 := Lib.hid (RowAt_below T1.out HB.out)
      have B1 := Lib.hid (RowAt_below T2.out HB.out)
      go_wp2_with fail
      refine (sameTable_yes _ _ (zeros n) _ B0.out B1.out).mono ?_
      rintro e w1 ⟨rfl, hb1⟩
      have HB1 := Lib.hid (HB.out.trans (hb1.mono HB.out.size))
      have x1 := blk_below hb1 X1.out z1
      have x2 := blk_below hb1 X2.out z2
      have Y1 := Lib.hid x1
      have Y2 := Lib.hid x2
      have zz1 := lt_of_block x1
      have zz2 := lt_of_block x2
      clear d22 e22 d17 e17 d19 e19 d20 e20 d21 e21 d24 e24 d25 e25
      have d19 := blk_cell x1 19
      have d20 := blk_cell x1 20
      have d21 := blk_cell x1 21
      have d24 := blk_cell x1 24
      have d25 := blk_cell x1 25
      simp only [wArr, List.getElem?_toArray, List.getElem?_cons_succ, List.getElem?_cons_zero] at d19 d20 d21 d24 d25
      have e19 := blk_cell x2 19
      have e20 := blk_cell x2 20
      have e21 := blk_cell x2 21
      have e24 := blk_cell x2 24
      have e25 := blk_cell x2 25
      simp only [wArr, List.getElem?_toArray, List.getElem?_cons_succ, List.getElem?_cons_zero] at e19 e20 e21 e24 e25
      clear hb1 x1 x2
      go_wp2_with fail
      refine (sameBook_z _).mono ?_
      rintro e w2 ⟨rfl, hb2⟩
      have HB2 := Lib.hid (HB1.out.trans (hb2.mono HB1.out.size))
      have x1 := blk_below hb2 Y1.out zz1
      have x2 := blk_below hb2 Y2.out zz2
      have U1 := Lib.hid x1
      have U2 := Lib.hid x2
      have zu1 := lt_of_block x1
      have zu2 := lt_of_block x2
      clear d19 e19 d20 e20 d21 e21 d24 e24 d25 e25
      have d21 := blk_cell x1 21
      have d24 := blk_cell x1 24
      have d25 := blk_cell x1 25
      simp only [wArr, List.getElem?_toArray, List.getElem?_cons_succ, List.getElem?_cons_zero] at d21 d24 d25
      have e21 := blk_cell x2 21
      have e24 := blk_cell x2 24
      have e25 := blk_cell x2 25
      simp only [wArr, List.getElem?_toArray, List.getElem?_cons_succ, List.getElem?_cons_zero] at e21 e24 e25
      clear hb2 x1 x2
      go_wp2_with fail
      refine (SameRing_z _).mono ?_
      rintro e w3 ⟨rfl, hb3⟩
      have HB3 := Lib.hid (HB2.out.trans (hb3.mono HB2.out.size))
      have x1 := blk_below hb3 U1.out zu1
      have x2 := blk_below hb3 U2.out zu2
      have zv1 := lt_of_block x1
      have zv2 := lt_of_block x2
      clear d21 e21 d24 e24 d25 e25
      have d24 := blk_cell x1 24
      have d25 := blk_cell x1 25
      simp only [wArr, List.getElem?_toArray, List.getElem?_cons_succ, List.getElem?_cons_zero] at d24 d25
      have e24 := blk_cell x2 24
      have e25 := blk_cell x2 25
      simp only [wArr, List.getElem?_toArray, List.getElem?_cons_succ, List.getElem?_cons_zero] at e24 e25
      clear hb3 x1 x2
      have B3 := Lib.hid (RowAt_below L1.out HB3.out)
      have B4 := Lib.hid (RowAt_below L2.out HB3.out)
      go_wp2_with fail
      refine (SameWheel_news _ _ 0 _ B3.out B4.out).mono ?_
      rintro e w4 ⟨rfl, hb4⟩
      have HB4 := HB3.out.trans (hb4.mono HB3.out.size)
      clear hb4 d24 e24 d25 e25
      go_wp2
      all_goals first | (go_ret; exact ⟨rfl, HB4⟩) | (exfalso; first | omega | (simp at *; omega) | (simp at *; done))
end Go.Proofs.Ytjfnnbbnkcdbcaa
