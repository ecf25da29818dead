/- tally.Story: its contract. -/
import Derived.Test.YtjnfnmbkmgjdlaaStory
namespace Go.Proofs.Ytjnfnmbkmgjdlaa
open Go.RowKit


set_option maxHeartbeats 2000000 in
set_option maxRecDepth 100000 in
theorem prog_Story_bad (v : Value) (X : List Out) (hs hg : Int) (w : World) (r : RowAt w 7 v (X.map Out.cells)) (hn : X.length * 56 ≤ 140737488351232) (hf : ∃ x ∈ X, ¬ Fits x) : Calls Try.prog 8 #[v, .agg #[.int .i64 hs, .int .i64 hg]] w (StoryPost w [] 5) := by
  have R := Lib.hid r
  have H := Lib.hid hf
  obtain ⟨a, c, rfl, _⟩ := RowAt_shape r
  clear r hf
  go_enter Try.func8, Try.ntmps8
  go_wp2_with fail
  refine (prog_Of_bad _ X _ (RowAt_alloc R.out _) hn H.out).mono ?_
  rintro e w1 ⟨rfl, hb1⟩
  obtain ⟨hc1, hf1⟩ := bcell hb1
  have hy1 := hb1.size
  simp at hy1
  rw [talV_lit]
  go_wp2
  refine bodyPost_ret (v := .tuple #[.slice none 0 0, .int .i64 5]) ?_ rfl ⟨_, rfl, RowNew_nil _ _ _, (by repeat (first | (with_reducible exact Below.refl _ _) | (with_reducible assumption) | (with_reducible refine Below.drew ?_) | (with_reducible refine Below_drewN ?_) | (with_reducible refine Below.alloc ?_ (by first | omega | (simp; done) | (simp; omega)) _) | (with_reducible refine Below.setCell ?_ (by first | omega | (simp; done) | (simp; omega)) _) | (with_reducible refine Below.trans ?_ (Below.mono (by assumption) (by first | omega | (simp; done) | (simp; omega))))))⟩
  simp [results, Try.results8, go_sem, *]

set_option maxHeartbeats 4000000 in
set_option maxRecDepth 100000 in
theorem prog_Story_row (b0 o0 c0 : Nat) (X : List Out) (hs hg : Int) (w : World) (hb0 : b0 < w.heap.size) (r : RowAt w 7 (.slice (some ⟨b0, o0, none⟩) X.length c0) (X.map Out.cells)) (hn : X.length * 56 ≤ 140737488351232) (hf : ∀ x ∈ X, Fits x) (h1 : ∀ i j, i < X.length → j < 7 → w.cell? ⟨b0, o0 + i * 7 + j, none⟩ = (X.getD i Out.zero).cells[j]?) :
    Calls Try.prog 8 #[.slice (some ⟨b0, o0, none⟩) X.length c0, .agg #[.int .i64 hs, .int .i64 hg]] w (StoryPost w (storyL X hs hg X.length) 0) := by
  obtain ⟨i0, hi, hi0, hi1, hi2⟩ := info_parts info_out
  have R := Lib.hid r
  have H := Lib.hid hf
  have H1 := Lib.hid h1
  have hn2 : X.length ≤ 9223372036854775807 := by omega
  clear r hf h1
  go_enter Try.func8, Try.ntmps8
  go_wp2_with fail
  refine (prog_Of_ok _ X _ (RowAt_alloc R.out _) hn H.out).mono ?_
  rintro e w1 ⟨rfl, hb1⟩
  obtain ⟨hc1, hf1⟩ := bcell hb1
  have hy1 := hb1.size
  simp at hy1
  rw [talV_lit]
  obtain ⟨B, hBB⟩ : ∃ B, B = w1.heap.size + 1 := ⟨_, rfl⟩
  have hB1 : w.heap.size < B := by omega
  have hB2 : B ≤ w1.heap.size + 1 := by omega
  clear hBB
  have b1 := Lib.hid (((Below.refl w.heap.size w).alloc (Nat.le_refl _) (.cells #[.int .i64 hs, .int .i64 hg] 24)).trans (hb1.mono (by simp)))
  have g1 := Lib.hid (blk_below hb1 (heap_at (w := w) (.cells #[.int .i64 hs, .int .i64 hg] 24) rfl) (by simp))
  go_wp2_with fail
  go_loopw [8, 21] (fun l i wr => ∃ k : Nat, i = .int .i64 k ∧ StRel w wr B X hs hg k l) (fun _ i _ => X.length - (intOf i).toNat)
  case atStart => exact ⟨0, rfl, Nat.zero_le _, b1.out.alloc (by omega) _, by omega, by simp; omega, by rw [Below.heap_alloc _ _ _ (by omega)]; exact g1.out, none, 0, rfl, World.ownsRow_nil _ _ _ _⟩
  case round =>
    obtain ⟨k, rfl, hrel⟩ := hrel
    have HR := Lib.hid hrel
    obtain ⟨hk, hb, hB, hBr, hh, a, cap, rfl, hown⟩ := hrel
    have e0 := blk_cell hh 0
    have e1 := blk_cell hh 1
    simp at e0 e1
    have hL := story_len X hs hg k
    have lw : w.heap.size < wr.heap.size := by omega
    have HB := Lib.hid hb
    have HH := Lib.hid hh
    have HO := Lib.hid hown
    rcases (show k < X.length ∨ X.length = k by omega) with hlt | heq
    · have hlt' : (k : Int) < (X.length : Int) := by omega
      have p0 : (0 : Int) ≤ (k : Int) := by omega
      obtain ⟨s, hs'⟩ : ∃ s, s = X.getD k Out.zero := ⟨_, rfl⟩
      have hfo : Fits s := H.out s (by rw [hs']; simp only [List.getD, List.getElem?_eq_getElem hlt, Option.getD_some]; exact List.getElem_mem _)
      have hold : ∀ j, j < 7 → wr.cell? ⟨b0, o0 + k * 7 + j, none⟩ = s.cells[j]? := fun j hj => by
        rw [hb.cell (p := ⟨b0, o0 + k * 7 + j, none⟩) hb0, hs']; exact H1.out k j hlt hj
      have a0 := hold 0 (by omega)
      have a1 := hold 1 (by omega)
      have a2 := hold 2 (by omega)
      have a3 := hold 3 (by omega)
      have a4 := hold 4 (by omega)
      have a5 := hold 5 (by omega)
      have a6 := hold 6 (by omega)
      have HS := Lib.hid hs'
      clear hold hb hs' hh hown
      obtain ⟨kd, sl, gn, bk, rq, cd, wy⟩ := s
      obtain ⟨f1, f2, f3, f4⟩ := hfo
      simp only [Out.cells, List.getElem?_cons_zero, List.getElem?_cons_succ, Nat.add_zero] at a0 a1 a2 a3 a4 a5 a6 f1 f2 f3 f4
      have lb : b0 < wr.heap.size := cell_lt a0
      have KB := Lib.hid ((Below.refl wr.heap.size wr).alloc (Nat.le_refl _) (.cells #[.int .i64 kd, .int .i64 sl, .int .i64 gn, .int .i64 bk, .int .i64 rq, .int .i64 cd, .int .i64 wy] 60))
      by_cases hfl : flowK kd = true
      · rcases (show (sl = hs ∧ gn = hg) ∨ sl ≠ hs ∨ (sl = hs ∧ gn ≠ hg) by omega) with ⟨rfl, rfl⟩ | h | ⟨rfl, h⟩
        · have HN : Hid (storyB sl gn ⟨kd, sl, gn, bk, rq, cd, wy⟩ = true) := by simp [Hid, storyB, hfl]
          have hk6 : kd = 1 ∨ kd = 3 ∨ kd = 4 ∨ kd = 5 ∨ kd = 6 ∨ kd = 7 := by simp [flowK] at hfl; omega
          clear hfl
          rcases hk6 with rfl | rfl | rfl | rfl | rfl | rfl
          all_goals
            go_wp2_with (at_builtin; go_loud (refine wpList_append_own _ rfl _ _ 22 rfl B 60 i0 (.agg #[.int .i64 0, .int .i64 0, .int .i64 0, .int .i64 0, .int .i64 0, .int .i64 0, .int .i64 0]) 7 56 Try.underlying22 hi hi0 hi1 hi2 rfl (by decide) _ (storyL X sl gn k).length _ rfl ((own_keep HO.out KB.out).alloc _) ⟨wr.heap.size + 1, 0, none⟩ 1 1 (Out.cells ⟨_, sl, gn, bk, rq, cd, wy⟩) rfl rfl (news_lit (by simp) (Out.cells ⟨_, sl, gn, bk, rq, cd, wy⟩) 60) ?c1 ?c2 ?c3 ?c4 ?_))
            case c1 => intro u hu; simp [Out.cells] at hu; rcases hu with rfl | rfl | rfl | rfl | rfl | rfl | rfl <;> rfl
            case c2 => unfold maxLen; omega
            case c3 => omega
            case c4 => simp; omega
            intro v' w1 hown' hgrow _
            obtain ⟨a', cap', rfl, _, _⟩ := owns_shape hown'
            have S := Lib.hid (StRel_add HB.out hB hBr HH.out HO.out (KB.out.alloc (by simp) _) hgrow hown' hlt HS.out HN.out)
            clear hgrow hown'
            go_wp2
            go_roundw
            case rel => exact ⟨k + 1, by go_num, S.out⟩
            case measure => simp [intOf]; omega
        · have e2 : (sl == hs) = false := by simpa using h
          have HN : Hid (storyB hs hg ⟨kd, sl, gn, bk, rq, cd, wy⟩ = false) := by simp [Hid, storyB, h]
          clear h hfl
          rcases (show kd = 1 ∨ kd = 2 ∨ kd = 3 ∨ kd = 4 ∨ kd = 5 ∨ kd = 6 ∨ kd = 7 ∨ kd = 8 ∨ kd = 9 ∨ kd = 10 by omega) with rfl | rfl | rfl | rfl | rfl | rfl | rfl | rfl | rfl | rfl
          all_goals
            go_wp2
            go_roundw
            case rel => exact ⟨k + 1, by go_num, StRel_keep HR.out KB.out hlt HS.out HN.out⟩
            case measure => simp [intOf]; omega
        · have e2 : (gn == hg) = false := by simpa using h
          have HN : Hid (storyB sl hg ⟨kd, sl, gn, bk, rq, cd, wy⟩ = false) := by simp [Hid, storyB, h]
          clear h hfl
          rcases (show kd = 1 ∨ kd = 2 ∨ kd = 3 ∨ kd = 4 ∨ kd = 5 ∨ kd = 6 ∨ kd = 7 ∨ kd = 8 ∨ kd = 9 ∨ kd = 10 by omega) with rfl | rfl | rfl | rfl | rfl | rfl | rfl | rfl | rfl | rfl
          all_goals
            go_wp2
            go_roundw
            case rel => exact ⟨k + 1, by go_num, StRel_keep HR.out KB.out hlt HS.out HN.out⟩
            case measure => simp [intOf]; omega
      · have HN : Hid (storyB hs hg ⟨kd, sl, gn, bk, rq, cd, wy⟩ = false) := by simp [Hid, storyB, hfl]
        have hk6 : kd = 2 ∨ kd = 8 ∨ kd = 9 ∨ kd = 10 := by simp [flowK] at hfl; omega
        clear hfl
        rcases hk6 with rfl | rfl | rfl | rfl
        all_goals
            go_wp2
            go_roundw
            case rel => exact ⟨k + 1, by go_num, StRel_keep HR.out KB.out hlt HS.out HN.out⟩
            case measure => simp [intOf]; omega
    · have hge : ¬ (k : Int) < (X.length : Int) := by omega
      clear hb hh hown
      go_wp2
      refine bodyPost_ret (v := .tuple #[.slice a (storyL X hs hg k).length cap, .int .i64 0]) ?_ rfl ?_
      · simp [results, Try.results8, go_sem, *]
      · exact ⟨_, rfl, RowNew_mono (RowNew_of_owns HO.out (by simp) (outs_len _)) (by omega), HB.out⟩
end Go.Proofs.Ytjnfnmbkmgjdlaa
