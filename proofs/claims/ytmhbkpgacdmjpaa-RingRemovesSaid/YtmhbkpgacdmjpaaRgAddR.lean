/- usherref.RingAdded, usherref.RingRemoved. -/
import Derived.Test.YtmhbkpgacdmjpaaRgAdd
namespace Go.Proofs.Ytmhbkpgacdmjpaa
open Go.RowKit
theorem icN_set (ws : List Nat) (n m : Nat) : (ws.map icN).flatten.set n (.int .i64 (m : Int)) = ((ws.set n m).map icN).flatten := by
  rw [icN_flat, icN_flat, ← List.map_set, ← List.map_set]
theorem icN_get {ws : List Nat} {n : Nat} (h : n < ws.length) : (ws.map icN).flatten[n]? = some (.int .i64 ((ws.getD n 0 : Nat) : Int)) := by
  rw [icN_flat]; simp [List.getD, h]

set_option maxHeartbeats 4000000 in
set_option maxRecDepth 100000 in
theorem ref_RgAdd (v : Value) (X : List Sp) (w : World) (b wt : Int) (L : List Sp) (c : Int) (r : RowAt w 2 v (X.map Sp.cells)) (ha : AddAns X b wt L c) : Calls Try.prog 11 #[.agg #[v], .int .i64 b, .int .i64 wt] w (RgCPost w L c) := by
  have R := Lib.hid r
  obtain ⟨a, cp, rfl, _⟩ := RowAt_shape r
  have HA := Lib.hid ha
  clear r ha
  go_enter Try.func11, Try.ntmps11
  go_wp2_with fail; refine (ref_RingWeights _ X _ (RowAt_alloc (RowAt_alloc R.out _) _)).mono ?_; rintro e w1 ⟨vw, rfl, hv, hb⟩; have HB := Lib.hid ((((Below.refl w.heap.size w).alloc (Nat.le_refl _) _).alloc (by simp) _).trans (hb.mono (by simp; omega))); have hz1 := hb.size; simp at hz1; have k1 : w.heap.size + 1 < w1.heap.size := (by omega); have g1 : w1.cell? ⟨w.heap.size + 1, 0, none⟩ = some (.slice none 0 0) := (by rw [hb.cell (p := ⟨w.heap.size + 1, 0, none⟩) (by first | omega | (simp; done) | (simp; omega))]; go_simp); have g2 : w1.frozen? ⟨w.heap.size + 1, 0, none⟩ = false := (by rw [hb.frozen (p := ⟨w.heap.size + 1, 0, none⟩) (by first | omega | (simp; done) | (simp; omega))]; go_simp); have HV := Lib.hid hv; clear hv hb
  rcases HA.out with ⟨hm, rfl, rfl⟩ | ⟨hm, hs, rfl, rfl⟩ | ⟨n, m, hm, rfl, hn12, rfl, hm1, hm8, hs⟩
  · rcases HV.out with ⟨h, _⟩ | ⟨_, rfl⟩
    · exact absurd h hm
    clear hm HA HV
    go_wp2
    all_goals (refine bodyPost_ret (v := .tuple #[.agg #[.slice none 0 0], .int .i64 6]) ?_ rfl (RgCPost.nil (HB.out.setCell (by simp) _)); (simp [results, Try.results11, go_sem, *]; done))
  · rcases HV.out with ⟨_, g, rfl, _⟩ | ⟨h, _⟩
    rotate_left
    · exact absurd hm h
    clear hm HA HV
    rcases (show (b < 0 ∨ 11 < b) ∨ ((0 ≤ b ∧ b ≤ 11) ∧ (wt < 1 ∨ 8 < wt)) by omega) with h | ⟨⟨h, ha⟩, hc⟩
    · clear hs
      go_wp2_with (go_at_call 24; first | (refine (In_yes _ _ _ _ (by omega) (by omega)).mono ?_; rintro e w' ⟨rfl, rfl⟩) | (refine (In_no _ _ _ _ (by omega)).mono ?_; rintro e w' ⟨rfl, rfl⟩))
      all_goals (refine bodyPost_ret (v := .tuple #[.agg #[.slice none 0 0], .int .i64 2]) ?_ rfl (RgCPost.nil (HB.out.setCell (by simp) _)); (simp [results, Try.results11, go_sem, *]; done))
    · clear hs
      go_wp2_with (go_at_call 24; first | (refine (In_yes _ _ _ _ (by omega) (by omega)).mono ?_; rintro e w' ⟨rfl, rfl⟩) | (refine (In_no _ _ _ _ (by omega)).mono ?_; rintro e w' ⟨rfl, rfl⟩))
      all_goals (refine bodyPost_ret (v := .tuple #[.agg #[.slice none 0 0], .int .i64 2]) ?_ rfl (RgCPost.nil (HB.out.setCell (by simp) _)); (simp [results, Try.results11, go_sem, *]; done))
  · rcases HV.out with ⟨_, g, rfl, hown⟩ | ⟨h, _⟩
    rotate_left
    · exact absurd hm h
    have HO := Lib.hid hown
    have hcl := icN_get (ws := rgW X) (n := n) (by rw [rgW_len]; exact hn12)
    obtain ⟨q, hq⟩ : ∃ q, q = (rgW X).getD n 0 := ⟨_, rfl⟩
    rw [← hq] at hs hcl
    have e1 : w1.cell? ⟨g, n, none⟩ = some (.int .i64 (q : Int)) := (hown.cellAt n (by omega)).trans hcl
    have e2 : w1.frozen? ⟨g, n, none⟩ = false := hown.frozenAt n
    have gB := (hown.lt _ rfl)
    have gne : ¬ g = w.heap.size + 1 := by have := gB.1; simp at this; omega
    have gB2 := gB.1
    simp at gB2
    have a5 : (n : Int) < 12 := by omega
    have a6 : 0 ≤ (n : Int) := by omega
    have HM := Lib.hid hm
    clear hm HA HV hown hcl hq gB
    rcases hs with ⟨hp, rfl, rfl⟩ | ⟨rfl, rfl, rfl⟩
    · have hp' : 0 < (q : Int) := by omega
      go_wp2_with (go_at_call 24; first | (refine (In_yes _ _ _ _ (by omega) (by omega)).mono ?_; rintro e w' ⟨rfl, rfl⟩) | (refine (In_no _ _ _ _ (by omega)).mono ?_; rintro e w' ⟨rfl, rfl⟩))
      all_goals (refine bodyPost_ret (v := .tuple #[.agg #[.slice none 0 0], .int .i64 7]) ?_ rfl (RgCPost.nil (HB.out.setCell (by simp) _)); (simp [results, Try.results11, go_sem, *]; done))
    · have hp' : ¬ 0 < ((0 : Nat) : Int) := by omega
      go_wp2_with (go_at_call 24; first | (refine (In_yes _ _ _ _ (by omega) (by omega)).mono ?_; rintro e w' ⟨rfl, rfl⟩) | (refine (In_no _ _ _ _ (by omega)).mono ?_; rintro e w' ⟨rfl, rfl⟩))
      refine (ref_RingOf _ ((rgW X).set n m) _ (RowAt_of_owns (L := ((rgW X).set n m).map icN) (by rw [← icN_set]; exact (HO.out.stored n _).1) (by simp [rgW_len]) (icN_len _)) (by simp [rgW_len]) (fun b => by rw [getD_set _ _ _ _ (by rw [rgW_len]; exact hn12)]; have := rgW_le HM.out.2.1 b; split <;> omega)).mono ?_
      rintro e w3 ⟨v3, rfl, R3, hb3⟩
      have hs3 := hb3.size
      have hsz : ∀ (p : Addr) (u : Value), (w1.setCell p u).heap.size = w1.heap.size := fun p u => by simp
      rw [hsz] at hs3
      have HB3 := Lib.hid ((HB.out.setCell (p := ⟨g, n, none⟩) (by simp; omega) (.int .i64 (m : Int))).trans (hb3.mono (by rw [hsz]; exact HB.out.size)))
      have d1 := cell_below hb3 (cell_keep_set g1 (by simp; omega)) (by rw [hsz]; omega)
      have d2 : w3.frozen? ⟨w.heap.size + 1, 0, none⟩ = false := (hb3.frozen (p := ⟨w.heap.size + 1, 0, none⟩) (by rw [hsz]; exact k1)).trans (by simpa using g2)
      have HN3 := Lib.hid (RowNew_mono R3 (B' := w1.heap.size) (by rw [hsz]; omega))
      obtain ⟨a3, c3, rfl, _⟩ := RowAt_shape R3.1
      clear R3 hb3 hsz e1 e2 g1 g2 HO
      go_wp2
      refine bodyPost_ret (v := .tuple #[.agg #[.slice a3 (ringOf ((rgW X).set n m)).length c3], .int .i64 0]) ?_ rfl ⟨_, rfl, RowNew_mono (RowNew_setCell HN3.out (by simp; omega) _) (by omega), HB3.out.setCell (by simp) _⟩
      simp [results, Try.results11, go_sem, *]

set_option maxHeartbeats 4000000 in
set_option maxRecDepth 100000 in
theorem ref_RgRem (v : Value) (X : List Sp) (w : World) (b : Int) (L : List Sp) (c : Int) (r : RowAt w 2 v (X.map Sp.cells)) (ha : RemAns X b L c) : Calls Try.prog 14 #[.agg #[v], .int .i64 b] w (RgCPost w L c) := by
  have R := Lib.hid r
  obtain ⟨a, cp, rfl, _⟩ := RowAt_shape r
  have HA := Lib.hid ha
  clear r ha
  go_enter Try.func14, Try.ntmps14
  go_wp2_with fail; refine (ref_RingWeights _ X _ (RowAt_alloc (RowAt_alloc R.out _) _)).mono ?_; rintro e w1 ⟨vw, rfl, hv, hb⟩; have HB := Lib.hid ((((Below.refl w.heap.size w).alloc (Nat.le_refl _) _).alloc (by simp) _).trans (hb.mono (by simp; omega))); have hz1 := hb.size; simp at hz1; have k1 : w.heap.size + 1 < w1.heap.size := (by omega); have g1 : w1.cell? ⟨w.heap.size + 1, 0, none⟩ = some (.slice none 0 0) := (by rw [hb.cell (p := ⟨w.heap.size + 1, 0, none⟩) (by first | omega | (simp; done) | (simp; omega))]; go_simp); have g2 : w1.frozen? ⟨w.heap.size + 1, 0, none⟩ = false := (by rw [hb.frozen (p := ⟨w.heap.size + 1, 0, none⟩) (by first | omega | (simp; done) | (simp; omega))]; go_simp); have HV := Lib.hid hv; clear hv hb
  rcases HA.out with ⟨hm, rfl, rfl⟩ | ⟨hm, hs, rfl, rfl⟩ | ⟨n, hm, rfl, hn12, hs⟩
  · rcases HV.out with ⟨h, _⟩ | ⟨_, rfl⟩
    · exact absurd h hm
    clear hm HA HV
    go_wp2
    all_goals (refine bodyPost_ret (v := .tuple #[.agg #[.slice none 0 0], .int .i64 6]) ?_ rfl (RgCPost.nil (HB.out.setCell (by simp) _)); (simp [results, Try.results14, go_sem, *]; done))
  · rcases HV.out with ⟨_, g, rfl, _⟩ | ⟨h, _⟩
    rotate_left
    · exact absurd hm h
    clear hm HA HV
    go_wp2_with (go_at_call 24; first | (refine (In_yes _ _ _ _ (by omega) (by omega)).mono ?_; rintro e w' ⟨rfl, rfl⟩) | (refine (In_no _ _ _ _ (by omega)).mono ?_; rintro e w' ⟨rfl, rfl⟩))
    all_goals (refine bodyPost_ret (v := .tuple #[.agg #[.slice none 0 0], .int .i64 8]) ?_ rfl (RgCPost.nil (HB.out.setCell (by simp) _)); (simp [results, Try.results14, go_sem, *]; done))
  · rcases HV.out with ⟨_, g, rfl, hown⟩ | ⟨h, _⟩
    rotate_left
    · exact absurd hm h
    have HO := Lib.hid hown
    have hcl := icN_get (ws := rgW X) (n := n) (by rw [rgW_len]; exact hn12)
    obtain ⟨q, hq⟩ : ∃ q, q = (rgW X).getD n 0 := ⟨_, rfl⟩
    rw [← hq] at hs hcl
    have e1 : w1.cell? ⟨g, n, none⟩ = some (.int .i64 (q : Int)) := (hown.cellAt n (by omega)).trans hcl
    have e2 : w1.frozen? ⟨g, n, none⟩ = false := hown.frozenAt n
    have gB := (hown.lt _ rfl)
    have gne : ¬ g = w.heap.size + 1 := by have := gB.1; simp at this; omega
    have gB2 := gB.1
    simp at gB2
    have a5 : (n : Int) < 12 := by omega
    have a6 : 0 ≤ (n : Int) := by omega
    have HM := Lib.hid hm
    clear hm HA HV hown hcl hq gB
    rcases hs with ⟨rfl, rfl, rfl⟩ | ⟨hp, rfl, rfl⟩
    · go_wp2_with (go_at_call 24; first | (refine (In_yes _ _ _ _ (by omega) (by omega)).mono ?_; rintro e w' ⟨rfl, rfl⟩) | (refine (In_no _ _ _ _ (by omega)).mono ?_; rintro e w' ⟨rfl, rfl⟩))
      all_goals (refine bodyPost_ret (v := .tuple #[.agg #[.slice none 0 0], .int .i64 8]) ?_ rfl (RgCPost.nil (HB.out.setCell (by simp) _)); (simp [results, Try.results14, go_sem, *]; done))
    · have hp' : ((q : Int) == 0) = false := by simp; omega
      have hp2 : ¬ (q : Int) = 0 := by omega
      go_wp2_with (go_at_call 24; first | (refine (In_yes _ _ _ _ (by omega) (by omega)).mono ?_; rintro e w' ⟨rfl, rfl⟩) | (refine (In_no _ _ _ _ (by omega)).mono ?_; rintro e w' ⟨rfl, rfl⟩))
      refine (ref_RingOf _ ((rgW X).set n 0) _ (RowAt_of_owns (L := ((rgW X).set n 0).map icN) (by rw [← icN_set]; exact (HO.out.stored n _).1) (by simp [rgW_len]) (icN_len _)) (by simp [rgW_len]) (fun b => by rw [getD_set _ _ _ _ (by rw [rgW_len]; exact hn12)]; have := rgW_le HM.out.2.1 b; split <;> omega)).mono ?_
      rintro e w3 ⟨v3, rfl, R3, hb3⟩
      have hs3 := hb3.size
      have hsz : ∀ (p : Addr) (u : Value), (w1.setCell p u).heap.size = w1.heap.size := fun p u => by simp
      rw [hsz] at hs3
      have HB3 := Lib.hid ((HB.out.setCell (p := ⟨g, n, none⟩) (by simp; omega) (.int .i64 0)).trans (hb3.mono (by rw [hsz]; exact HB.out.size)))
      have d1 := cell_below hb3 (cell_keep_set g1 (by simp; omega)) (by rw [hsz]; omega)
      have d2 : w3.frozen? ⟨w.heap.size + 1, 0, none⟩ = false := (hb3.frozen (p := ⟨w.heap.size + 1, 0, none⟩) (by rw [hsz]; exact k1)).trans (by simpa using g2)
      have HN3 := Lib.hid (RowNew_mono R3 (B' := w1.heap.size) (by rw [hsz]; omega))
      obtain ⟨a3, c3, rfl, _⟩ := RowAt_shape R3.1
      clear R3 hb3 hsz e1 e2 g1 g2 HO
      go_wp2
      refine bodyPost_ret (v := .tuple #[.agg #[.slice a3 (ringOf ((rgW X).set n 0)).length c3], .int .i64 0]) ?_ rfl ⟨_, rfl, RowNew_mono (RowNew_setCell HN3.out (by simp; omega) _) (by omega), HB3.out.setCell (by simp) _⟩
      simp [results, Try.results14, go_sem, *]
end Go.Proofs.Ytmhbkpgacdmjpaa
