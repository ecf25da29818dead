/- ring.Add and usherref.RingAdded. -/
import Derived.Test.YtmhbkpgacdmjpaaRgAddL
import Derived.Test.YtmhbkpgacdmjpaaRgW
namespace Go.Proofs.Ytmhbkpgacdmjpaa
open Go.RowKit
def RgCPost (w : World) (L : List Sp) (c : Int) (e : Ending) (w' : World) : Prop := ∃ v, e = .returned (.tuple #[.agg #[v], .int .i64 c]) ∧ RowNew w.heap.size w' 2 v (L.map Sp.cells) ∧ Below w.heap.size w w'
theorem RgCPost.nil {w w' : World} {c : Int} (hb : Below w.heap.size w w') : RgCPost w [] c (.returned (.tuple #[.agg #[.slice none 0 0], .int .i64 c])) w' := ⟨_, rfl, RowNew_nil _ _ _, hb⟩

set_option maxHeartbeats 4000000 in
set_option maxRecDepth 100000 in
theorem prog_RgAdd (v : Value) (X : List Sp) (w : World) (b wt : Int) (L : List Sp) (c : Int) (r : RowAt w 2 v (X.map Sp.cells)) (hn : X.length * 16 ≤ 140737488351232) (ha : AddAns X b wt L c) : Calls Try.prog 10 #[.agg #[v], .int .i64 b, .int .i64 wt] w (RgCPost w L c) := by
  obtain ⟨i0, hi, hi0, hi1, hi2⟩ := info_parts infoc_Sp
  have R := Lib.hid r
  obtain ⟨a, cp, rfl, _⟩ := RowAt_shape r
  have HA := Lib.hid ha
  clear r ha
  go_enter Try.func10, Try.ntmps10
  go_wp2_with fail
  refine (prog_weights _ X _ (RowAt_alloc (RowAt_alloc R.out _) _) hn).mono ?_
  rintro e w1 ⟨W, bo, hW, rfl, h1, h2, hb⟩
  have HB := Lib.hid ((((Below.refl w.heap.size w).alloc (Nat.le_refl _) _).alloc (by simp) _).trans (hb.mono (by simp; omega)))
  have hz1 := hb.size
  simp at hz1
  have k0 : w.heap.size < w1.heap.size := by omega
  have k1 : w.heap.size + 1 < w1.heap.size := by omega
  have g0 : w1.cell? ⟨w.heap.size, 0, none⟩ = some (.slice a X.length cp) := by rw [hb.cell (p := ⟨w.heap.size, 0, none⟩) (by first | omega | (simp; done) | (simp; omega))]; go_simp
  have g1 : w1.cell? ⟨w.heap.size + 1, 0, none⟩ = some (.slice none 0 0) := by rw [hb.cell (p := ⟨w.heap.size + 1, 0, none⟩) (by first | omega | (simp; done) | (simp; omega))]; go_simp
  have g2 : w1.frozen? ⟨w.heap.size + 1, 0, none⟩ = false := by rw [hb.frozen (p := ⟨w.heap.size + 1, 0, none⟩) (by first | omega | (simp; done) | (simp; omega))]; go_simp
  have H1 := Lib.hid h1
  have H2 := Lib.hid h2
  have HW := Lib.hid hW
  have RX := Lib.hid (RowAt_below R.out HB.out)
  clear hb h1 h2 hW
  rcases HA.out with ⟨hm, rfl, rfl⟩ | ⟨hm, hs, rfl, rfl⟩ | ⟨n, m, hm, rfl, hn12, rfl, hm1, hm8, hs⟩
  · have := H2.out hm
    subst this
    clear hm HA
    go_wp2_with (refine wpList_store_rowF rfl 39 (.tmp 8) (.tmp 14) rfl w1.heap.size (ar12 W) rfl rfl 39 (ar12 (List.replicate 12 0)) (heap_at _ rfl) (ar12_info HW.out) (by rw [ar12_size HW.out]; rfl) (ar12_one _) ?_; intro W2 hW2 _ hs2 hb2; obtain ⟨hc2, hf2⟩ := bcell hb2; have hb2' := Lib.hid ((HB.out.alloc (by omega) _).trans (hb2.mono (by omega))); clear hb2; simp at hs2)
    all_goals first | (refine bodyPost_ret (v := .tuple #[.agg #[.slice none 0 0], .int .i64 6]) ?_ rfl (RgCPost.nil (hb2'.out.setCell (by simp) _)); (simp [results, Try.results10, go_sem, *]; done))
  · obtain ⟨rfl, rfl⟩ := H1.out hm
    clear hm HA
    rcases (show b < 0 ∨ (¬ b < 0 ∧ 12 ≤ b) ∨ (¬ b < 0 ∧ ¬ 12 ≤ b ∧ wt < 1) ∨ (¬ b < 0 ∧ ¬ 12 ≤ b ∧ ¬ wt < 1 ∧ 8 < wt) by omega) with h | ⟨h, ha⟩ | ⟨h, ha, hb⟩ | ⟨h, ha, hb, hd⟩
    all_goals
      clear hs
      go_wp2_with (refine wpList_store_rowF rfl 39 (.tmp 8) (.tmp 14) rfl w1.heap.size (ar12 (mixK X 12)) rfl rfl 39 (ar12 (List.replicate 12 0)) (heap_at _ rfl) (ar12_info HW.out) (by rw [ar12_size HW.out]; rfl) (ar12_one _) ?_; intro W2 hW2 _ hs2 hb2; obtain ⟨hc2, hf2⟩ := bcell hb2; have hb2' := Lib.hid ((HB.out.alloc (by omega) _).trans (hb2.mono (by omega))); clear hb2; simp at hs2)
      all_goals first | (refine bodyPost_ret (v := .tuple #[.agg #[.slice none 0 0], .int .i64 2]) ?_ rfl (RgCPost.nil (hb2'.out.setCell (by simp) _)); (simp [results, Try.results10, go_sem, *]; done))
  · obtain ⟨rfl, rfl⟩ := H1.out hm
    have hWn : (mixK X 12)[n]? = some (((rgW X).getD n 0 : Nat) : Int) := by rw [mixK_get X 12 hn12, if_pos hn12, rgW_get X hn12]
    have HWn := Lib.hid hWn
    have HM := Lib.hid hm
    have a1 : ¬ (n : Int) < 0 := by omega
    have a2 : ¬ 12 ≤ (n : Int) := by omega
    have a3 : ¬ (m : Int) < 1 := by omega
    have a4 : ¬ 8 < (m : Int) := by omega
    have a5 : (n : Int) < 12 := by omega
    have a6 : 0 ≤ (n : Int) := by omega
    obtain ⟨q, hq⟩ : ∃ q, q = (rgW X).getD n 0 := ⟨_, rfl⟩
    rw [← hq] at HWn hs
    have HQ := Lib.hid hq
    clear hm hWn HA hq
    rcases hs with ⟨hp, rfl, rfl⟩ | ⟨rfl, rfl, rfl⟩
    · have hp' : 0 < (q : Int) := by omega
      go_wp2_with ((refine wpList_store_rowF rfl 39 (.tmp 8) (.tmp 14) rfl w1.heap.size (ar12 (mixK X 12)) rfl rfl 39 (ar12 (List.replicate 12 0)) (heap_at _ rfl) (ar12_info HW.out) (by rw [ar12_size HW.out]; rfl) (ar12_one _) ?_; intro W2 hW2 _ hs2 hb2; obtain ⟨hc2, hf2⟩ := bcell hb2; have hb2' := Lib.hid ((HB.out.alloc (by omega) _).trans (hb2.mono (by omega))); clear hb2; simp at hs2); have e1 := (blk_cell hW2 n).trans (ar12_get HWn.out))
      all_goals first | (refine bodyPost_ret (v := .tuple #[.agg #[.slice none 0 0], .int .i64 7]) ?_ rfl (RgCPost.nil (hb2'.out.setCell (by simp) _)); (simp [results, Try.results10, go_sem, *]; done))
    · have hp' : ¬ 0 < ((0 : Nat) : Int) := by omega
      go_wp2_with ((refine wpList_store_rowF rfl 39 (.tmp 8) (.tmp 14) rfl w1.heap.size (ar12 (mixK X 12)) rfl rfl 39 (ar12 (List.replicate 12 0)) (heap_at _ rfl) (ar12_info HW.out) (by rw [ar12_size HW.out]; rfl) (ar12_one _) ?_; intro W2 hW2 _ hs2 hb2; obtain ⟨hc2, hf2⟩ := bcell hb2; have hb2' := Lib.hid ((HB.out.alloc (by omega) _).trans (hb2.mono (by omega))); clear hb2; simp at hs2); have e1 := (blk_cell hW2 n).trans (ar12_get HWn.out))
      refine (cloneSp _ X _ (RowAt_below R.out hb2'.out) hn).mono ?_
      rintro e w3 ⟨v3, rfl, hown3, hb3⟩
      have hs3 := hb3.size
      have HB3 := Lib.hid (hb2'.out.trans (hb3.mono (by omega)))
      have HO3 := Lib.hid hown3
      have d1 : w3.cell? ⟨w.heap.size + 1, 0, none⟩ = some (.slice none 0 0) := by rw [hb3.cell (p := ⟨w.heap.size + 1, 0, none⟩) (by simp; omega), hc2 _ _ k1]; go_simp
      have d2 : w3.frozen? ⟨w.heap.size + 1, 0, none⟩ = false := by rw [hb3.frozen (p := ⟨w.heap.size + 1, 0, none⟩) (by simp; omega), hf2 _ _ k1]; go_simp
      obtain ⟨a3', c3', rfl, _⟩ := owns_shape hown3
      clear hb3 hown3 hc2 hf2 e1 g0 g1 g2 hW2
      go_wp2_with fail
      refine (prog_spots n m _ (by omega) hm8).mono ?_
      rintro e w4 ⟨v4, rfl, hown4, hb4⟩
      have hs4 := hb4.size
      have HB4 := Lib.hid (HB3.out.trans (hb4.mono HB3.out.size))
      have d1 := cell_below hb4 d1 (by omega)
      have d2 : w4.frozen? ⟨w.heap.size + 1, 0, none⟩ = false := (hb4.frozen (p := ⟨w.heap.size + 1, 0, none⟩) (by simp; omega)).trans d2
      have HO4 := Lib.hid (own_keep HO3.out hb4)
      have hlm := RgMay.len HM.out
      have hls : (spotsOf n m).length = 4 * m := spotsOf_len n m
      rcases owns_news hown4 with ⟨_, h0⟩ | ⟨g, c3, rfl, hnews⟩
      · omega
      have HNW := Lib.hid hnews
      clear hnews hb4 hown4 HO3 hls
      go_wp2_with (at_builtin; go_loud (refine wpList_append_own _ rfl _ _ 22 rfl W2.heap.size 45 i0 (.agg #[.int .i64 0, .int .i64 0]) 2 16 Try.underlying22 hi hi0 hi1 hi2 rfl (by decide) _ _ _ rfl HO4.out ⟨g, 0, none⟩ (4 * m) c3 ((spotsOf n m).map Sp.cells).flatten rfl ?c0 HNW.out ?c1 ?c2 ?c3 ?c4 ?_))
      case c0 => rw [flatten_length (sz := 2) (lenc_Sp _), List.length_map, spotsOf_len]
      case c1 => exact onec_Sp _
      case c2 => unfold maxLen; omega
      case c3 => omega
      case c4 => omega
      intro v' w6 hown' hgrow _
      have hO6 : w6.ownsRow (w1.heap.size + 1) 45 2 v' (X ++ spotsOf n m).length ((X ++ spotsOf n m).map Sp.cells).flatten := by
        rw [List.length_append, spotsOf_len, List.map_append, List.flatten_append]; exact hown'
      have HO6 := Lib.hid hO6
      have hb6 := grown_below (B := W2.heap.size) (Below.refl w4.heap.size w4) (by omega) HO4.out hgrow
      rw [hs2] at hb6
      have hs6 := hb6.size
      have HB6 := Lib.hid (HB4.out.trans (hb6.mono (by omega)))
      have d1 := cell_below hb6 d1 (by omega)
      have d2 : w6.frozen? ⟨w.heap.size + 1, 0, none⟩ = false := (hb6.frozen (p := ⟨w.heap.size + 1, 0, none⟩) (by simp; omega)).trans d2
      obtain ⟨a6, c6, rfl, _⟩ := owns_shape hO6
      have hll : (X ++ spotsOf n m).length ≤ 1000 := by rw [List.length_append, spotsOf_len]; omega
      obtain ⟨Y, hY⟩ : ∃ Y, Y = X ++ spotsOf n m := ⟨_, rfl⟩
      rw [← hY] at HO6 hll
      have hYL : (X ++ spotsOf n m).length = Y.length := by rw [hY]
      rw [hYL]
      have HY := Lib.hid hY
      clear hown' hgrow hb6 hO6 HO4 HNW hY hYL
      go_wp2_with fail
      refine (sort_Sp (w1.heap.size + 1) _ Y _ (by omega) HO6.out (by omega)).mono ?_
      rintro e w7 ⟨rfl, hown7, hb7, hs7, _⟩
      have HB7 := Lib.hid (HB6.out.trans (hb7.mono (by omega)))
      have d1 := cell_below hb7 d1 (by omega)
      have d2 : w7.frozen? ⟨w.heap.size + 1, 0, none⟩ = false := (hb7.frozen (p := ⟨w.heap.size + 1, 0, none⟩) (by simp; omega)).trans d2
      have HN7 : Hid (RowNew (w1.heap.size + 1) w7 2 (.slice a6 Y.length c6) ((ringOf ((rgW X).set n m)).map Sp.cells)) := by
        rw [← ringOf_set (n := m) HM.out hn12 HQ.out.symm, ← HY.out]
        exact RowNew_of_owns hown7 (by rw [List.length_map]; exact (srt_perm Y).length_eq) (lenc_Sp _)
      clear hown7 hb7 HO6
      go_wp2
      refine bodyPost_ret (v := .tuple #[.agg #[.slice a6 Y.length c6], .int .i64 0]) ?_ rfl ⟨_, rfl, RowNew_mono (RowNew_setCell HN7.out (by simp; omega) _) (by omega), HB7.out.setCell (by simp) _⟩
      simp [results, Try.results10, go_sem, *]
end Go.Proofs.Ytmhbkpgacdmjpaa
