/- What Ask answers (P11.4): the contracts of life.Ask and usherref.Asked; the walk of LifeAsks. -/
import Derived.Test.YthngedmmeiiklaaAskX
import Derived.Test.YthngedmmeiiklaaAskXj
import Derived.Test.YthngedmmeiiklaaAskY
import Derived.Test.YthngedmmeiiklaaAskYy
import Derived.Test.YthngedmmeiiklaaAskN
import Derived.Test.YthngedmmeiiklaaAskM
import Derived.Test.YthngedmmeiiklaaLifeFin
namespace Go.Proofs.Ythngedmmeiiklaa
open Go.RowKit

def AskAns (L : List Lf) (R : List Rq) (r : Rq) (now drain : Int) (L' : List Lf) (R' : List Rq) (ans : Int) (nw : Bool) (code : Int) : Prop :=
  (¬ BkMay L R ∧ L' = [] ∧ R' = [] ∧ ans = 0 ∧ nw = false ∧ code = 6) ∨
  (BkMay L R ∧ ¬ AkMay r now drain ∧ L' = [] ∧ R' = [] ∧ ans = 0 ∧ nw = false ∧ code = 2) ∨
  (BkMay L R ∧ AkMay r now drain ∧ AskGo L R r now drain L' R' ans nw ∧ code = 0)
theorem AskAns_total (L : List Lf) (R : List Rq) (r : Rq) (now drain : Int) : ∃ L' R' ans nw code, AskAns L R r now drain L' R' ans nw code := by
  by_cases h : BkMay L R
  · by_cases h2 : AkMay r now drain
    · obtain ⟨L', R', ans, nw, hg⟩ := AskGo_total L R r now drain h2
      exact ⟨_, _, _, _, _, Or.inr (Or.inr ⟨h, h2, hg, rfl⟩)⟩
    · exact ⟨_, _, _, _, _, Or.inr (Or.inl ⟨h, h2, rfl, rfl, rfl, rfl, rfl⟩)⟩
  · exact ⟨_, _, _, _, _, Or.inl ⟨h, rfl, rfl, rfl, rfl, rfl⟩⟩
theorem prog_Asks (vl vr : Value) (L : List Lf) (R : List Rq) (id kd bk wt an now drain : Int) (L' : List Lf) (R' : List Rq) (ans : Int) (nw : Bool) (code : Int) (w : World) (hl : RowAt w 6 vl (L.map Lf.cells)) (hr : RowAt w 5 vr (R.map Rq.cells)) (h : AskAns L R ⟨id, kd, bk, wt, an⟩ now drain L' R' ans nw code) :
    Calls Try.prog 11 #[.agg #[vl, vr], .agg #[.int .i64 id, .int .i64 kd, .int .i64 bk, .int .i64 wt, .int .i64 an], .int .i64 now, .int .i64 drain] w (AkPost w L' R' ans nw code) := by
  rcases h with ⟨h1, rfl, rfl, rfl, rfl, rfl⟩ | ⟨h1, h2, rfl, rfl, rfl, rfl, rfl⟩ | ⟨h1, h2, hg, rfl⟩
  · exact prog_Ask_state vl vr L R id kd bk wt an now drain w hl hr h1
  · exact prog_Ask_range vl vr L R id kd bk wt an now drain w hl hr h1 h2
  · rcases hg with ⟨q, hq, he, rfl, rfl, rfl, rfl⟩ | ⟨he, ⟨hf, rfl, rfl, rfl, rfl⟩ | ⟨hf, rfl, ⟨hk, hA, rfl⟩ | ⟨hk, hA, rfl⟩⟩⟩
    · exact prog_Ask_old vl vr _ _ id kd bk wt an now drain q w hl hr h1 h2 hq he
    · exact prog_Ask_full vl vr _ _ id kd bk wt an now drain w hl hr h1 h2 he hf
    · simp only at hk
      subst hk
      exact prog_Ask_join vl vr L R id bk wt an now drain L' ans w hl hr h1 h2 he hf hA
    · simp only at hk
      subst hk
      exact prog_Ask_retire vl vr L R id bk wt an now drain L' ans w hl hr h1 h2 he hf hA
theorem ref_Asks (vl vr : Value) (L : List Lf) (R : List Rq) (id kd bk wt an now drain : Int) (L' : List Lf) (R' : List Rq) (ans : Int) (nw : Bool) (code : Int) (w : World) (hl : RowAt w 6 vl (L.map Lf.cells)) (hr : RowAt w 5 vr (R.map Rq.cells)) (h : AskAns L R ⟨id, kd, bk, wt, an⟩ now drain L' R' ans nw code) :
    Calls Try.prog 12 #[.agg #[vl, vr], .agg #[.int .i64 id, .int .i64 kd, .int .i64 bk, .int .i64 wt, .int .i64 an], .int .i64 now, .int .i64 drain] w (AkPost w L' R' ans nw code) := by
  rcases h with ⟨h1, rfl, rfl, rfl, rfl, rfl⟩ | ⟨h1, h2, rfl, rfl, rfl, rfl, rfl⟩ | ⟨h1, h2, hg, rfl⟩
  · exact ref_Asked_state vl vr L R id kd bk wt an now drain w hl hr h1
  · exact ref_Asked_range vl vr L R id kd bk wt an now drain w hl hr h1 h2
  · rcases hg with ⟨q, hq, he, rfl, rfl, rfl, rfl⟩ | ⟨he, ⟨hf, rfl, rfl, rfl, rfl⟩ | ⟨hf, rfl, ⟨hk, hA, rfl⟩ | ⟨hk, hA, rfl⟩⟩⟩
    · exact ref_Asked_old vl vr _ _ id kd bk wt an now drain q w hl hr h1 h2 hq he
    · exact ref_Asked_full vl vr _ _ id kd bk wt an now drain w hl hr h1 h2 he hf
    · simp only at hk
      subst hk
      rcases hA with ⟨hb, rfl, rfl⟩ | ⟨hb, ⟨i, hi, hx, hs⟩, rfl, rfl⟩ | ⟨hb, ⟨i, hi, hx, hs, hT⟩, rfl⟩ | ⟨hb, hx, hT, rfl⟩
      · exact ref_Asked_jbad vl vr _ R id bk wt an now drain w hl hr h1 h2 he hf hb
      · exact ref_Asked_jtwice vl vr _ R id bk wt an now drain i w hl hr h1 h2 he hf hb hi hx hs
      · exact ref_Asked_jset vl vr L R id bk wt an now drain i L' w hl hr h1 h2 he hf hb hi hx hs hT
      · exact ref_Asked_jins vl vr L R id bk wt an now drain L' w hl hr h1 h2 he hf hb hx hT
    · simp only at hk
      subst hk
      rcases hA with ⟨hx, rfl, rfl⟩ | ⟨⟨i, hi, hx, hs⟩, rfl, rfl⟩ | ⟨⟨i, hi, hx, hs⟩, rfl, rfl⟩ | ⟨i, hi, hx, hs, hT, rfl⟩
      · exact ref_Asked_rnone vl vr _ R id bk wt an now drain w hl hr h1 h2 he hf hx
      · exact ref_Asked_r4 vl vr _ R id bk wt an now drain i w hl hr h1 h2 he hf hi hx hs
      · exact ref_Asked_r3 vl vr _ R id bk wt an now drain i w hl hr h1 h2 he hf hi hx hs
      · by_cases h3 : (L.getD i Lf.zero).state = 1
        · exact ref_Asked_y4 vl vr L R id bk wt an now drain i L' w hl hr h1 h2 he hf hi hx hs h3 hT
        · exact ref_Asked_y3 vl vr L R id bk wt an now drain i L' w hl hr h1 h2 he hf hi hx hs h3 hT

set_option maxHeartbeats 4000000 in
set_option maxRecDepth 100000 in
theorem walk_LifeAsks (v0 v1 v2' v3' : Value) (W : World) (o0 : Is_Book W v0) (o1 : Is_Request W v1) (o2 : Is_int W v2') (o3 : Is_int W v3') :
    Calls Try.prog 4 #[v0, v1, v2', v3'] W fun e w' => e = .returned (.bool true) ∧ Below W.heap.size W w' := by
  obtain ⟨vl, vr, L, R, rfl, hl, hr, _, _, hn1, hn2⟩ := o0
  obtain ⟨id, kd, bk, wt, an, rfl, _⟩ := o1
  obtain ⟨now, rfl, _⟩ := o2
  obtain ⟨drain, rfl, _⟩ := o3
  obtain ⟨L', R', ans, nw, code, hA⟩ := AskAns_total L R ⟨id, kd, bk, wt, an⟩ now drain
  have HA := Lib.hid hA
  have HL := Lib.hid hl
  have HR := Lib.hid hr
  obtain ⟨a, c, rfl, _⟩ := RowAt_shape hl
  obtain ⟨a', c', rfl, _⟩ := RowAt_shape hr
  clear hl hr hA
  go_enter Try.func4, Try.ntmps4
  go_wp2_with fail
  refine (law_books _ _ L R _ (RowAt_alloc (RowAt_alloc HL.out _) _) (RowAt_alloc (RowAt_alloc HR.out _) _) hn1 hn2).mono ?_
  rintro e w1 ⟨v1, v2, rfl, R1, R2, hb1⟩
  obtain ⟨a1, c1, rfl, _⟩ := RowAt_shape R1.1
  obtain ⟨a2, c2, rfl, _⟩ := RowAt_shape R2.1
  have hN1 := Lib.hid (blk_below hb1 ((Below.heap_alloc (w := World.alloc W (.cells #[.slice a L.length c, .slice a' R.length c'] 25)) (.cells #[.int .i64 id, .int .i64 kd, .int .i64 bk, .int .i64 wt, .int .i64 an] 31) W.heap.size (by simp)).trans (heap_at (w := W) (.cells #[.slice a L.length c, .slice a' R.length c'] 25) rfl)) (by simp; omega))
  have hQ1 := Lib.hid (blk_below hb1 (heap_at (w := World.alloc W (.cells #[.slice a L.length c, .slice a' R.length c'] 25)) (k := W.heap.size + 1) (.cells #[.int .i64 id, .int .i64 kd, .int .i64 bk, .int .i64 wt, .int .i64 an] 31) (by simp)) (by simp))
  have B1 := Lib.hid ((((Below.refl W.heap.size W).alloc (Nat.le_refl _) _).alloc (by simp) _).trans (hb1.mono (by simp; omega)))
  have R1' := Lib.hid (RowAt_alloc R1.1 (.cells #[.slice a1 L.length c1, .slice a2 R.length c2] 25))
  have R2' := Lib.hid (RowAt_alloc R2.1 (.cells #[.slice a1 L.length c1, .slice a2 R.length c2] 25))
  have s1 := hb1.size
  simp at s1
  have r0 := blk_cell hQ1.out 0
  have r1 := blk_cell hQ1.out 1
  have r2 := blk_cell hQ1.out 2
  have r3 := blk_cell hQ1.out 3
  have r4 := blk_cell hQ1.out 4
  have rl := lt_of_block hQ1.out
  simp at r0 r1 r2 r3 r4
  clear R1 R2 hb1
  go_wp2_with fail
  refine (prog_Asks _ _ L R id kd bk wt an now drain L' R' ans nw code _ R1'.out R2'.out HA.out).mono ?_
  rintro e w2 ⟨v3, v4, rfl, R3, R4, hb2⟩
  obtain ⟨a3, c3, rfl, _⟩ := RowAt_shape R3
  obtain ⟨a4, c4, rfl, _⟩ := RowAt_shape R4
  have hN2 := Lib.hid (blk_below hb2 ((Below.heap_alloc _ _ _ (by omega)).trans hN1.out) (by simp; omega))
  have hQ2 := Lib.hid (blk_below hb2 ((Below.heap_alloc _ _ _ (by omega)).trans hQ1.out) (by simp; omega))
  have hM2 := Lib.hid (blk_below hb2 (heap_at (w := w1) _ rfl) (by simp))
  have B2 := Lib.hid ((B1.out.alloc (by omega) (.cells #[.slice a1 L.length c1, .slice a2 R.length c2] 25)).trans (hb2.mono (by simp; omega)))
  have s2 := hb2.size
  simp at s2
  have L2 := Lib.hid (RowAt_alloc (RowAt_below HL.out B2.out) (.cells #[.slice a3 L'.length c3, .slice a4 R'.length c4] 25))
  have Q2 := Lib.hid (RowAt_alloc (RowAt_below HR.out B2.out) (.cells #[.slice a3 L'.length c3, .slice a4 R'.length c4] 25))
  have R1b := Lib.hid (RowAt_below R1'.out hb2)
  have R2b := Lib.hid (RowAt_below R2'.out hb2)
  have R3' := Lib.hid R3
  have R4' := Lib.hid R4
  have d0 := blk_cell hN2.out 0
  have d1 := blk_cell hN2.out 1
  simp at d0 d1
  have k1 : W.heap.size < w2.heap.size := by omega
  have k2 : w1.heap.size < w2.heap.size := by omega
  clear hb2 B1 R1' R2' hN1 R3 R4 r0 r1 r2 r3 r4 rl hQ1
  have r0 := blk_cell hQ2.out 0
  have r1 := blk_cell hQ2.out 1
  have r2 := blk_cell hQ2.out 2
  have r3 := blk_cell hQ2.out 3
  have r4 := blk_cell hQ2.out 4
  have rl := lt_of_block hQ2.out
  simp at r0 r1 r2 r3 r4
  go_wp2_with fail
  refine (ref_Asks _ _ L R id kd bk wt an now drain L' R' ans nw code _ L2.out Q2.out HA.out).mono ?_
  rintro e w3 ⟨v5, v6, rfl, R5, R6, hb3⟩
  obtain ⟨a5, c5, rfl, _⟩ := RowAt_shape R5
  obtain ⟨a6, c6, rfl, _⟩ := RowAt_shape R6
  have hN3 := blk_below hb3 ((Below.heap_alloc _ _ _ (by omega)).trans hN2.out) (by simp; omega)
  have hM3 := blk_below hb3 ((Below.heap_alloc _ _ _ (by omega)).trans hM2.out) (by simp; omega)
  have hP3 := blk_below hb3 (heap_at (w := w2) _ rfl) (by simp)
  have B3 := Lib.hid ((B2.out.alloc (by omega) (.cells #[.slice a3 L'.length c3, .slice a4 R'.length c4] 25)).trans (hb3.mono (by simp; omega)))
  have s3 := hb3.size
  simp at s3
  have k3 : W.heap.size < w3.heap.size := by omega
  have k4 : w1.heap.size < w3.heap.size := by omega
  have k5 : w2.heap.size < w3.heap.size := by omega
  have e0 := blk_cell hN3 0
  have e1 := blk_cell hN3 1
  have f0 := blk_cell hM3 0
  have f1 := blk_cell hM3 1
  have g0 := blk_cell hP3 0
  have g1 := blk_cell hP3 1
  simp at e0 e1 f0 f1 g0 g1
  have X1 := Lib.hid (RowAt_alloc (RowAt_below (RowAt_alloc R3'.out _) hb3) (.cells #[.slice a5 L'.length c5, .slice a6 R'.length c6] 25))
  have X2 := Lib.hid (RowAt_alloc (RowAt_below (RowAt_alloc R4'.out _) hb3) (.cells #[.slice a5 L'.length c5, .slice a6 R'.length c6] 25))
  have X3 := Lib.hid (RowAt_alloc R5 (.cells #[.slice a5 L'.length c5, .slice a6 R'.length c6] 25))
  have X4 := Lib.hid (RowAt_alloc R6 (.cells #[.slice a5 L'.length c5, .slice a6 R'.length c6] 25))
  have B4 := Lib.hid (B3.out.alloc (by omega) (.cells #[.slice a5 L'.length c5, .slice a6 R'.length c6] 25))
  have Y1 := Lib.hid (RowAt_alloc (RowAt_below (RowAt_alloc R1b.out _) hb3) (.cells #[.slice a5 L'.length c5, .slice a6 R'.length c6] 25))
  have Y2 := Lib.hid (RowAt_alloc (RowAt_below (RowAt_alloc R2b.out _) hb3) (.cells #[.slice a5 L'.length c5, .slice a6 R'.length c6] 25))
  clear r0 r1 r2 r3 r4 rl hQ2
  clear hb3 hN3 hM3 hP3 hN2 hM2 R5 R6 d0 d1
  go_wp2_with fail
  refine (sameBook_yes _ _ _ _ L' R' _ X1.out X2.out X3.out X4.out).mono ?_
  rintro e w4 ⟨rfl, hb4⟩
  have s4 := hb4.size
  simp at s4
  have B5 := Lib.hid (B4.out.trans (hb4.mono (by simp; omega)))
  have e0' := cell_below' hb4 (cell_alloc _ e0)
  have e1' := cell_below' hb4 (cell_alloc _ e1)
  have f0' := cell_below' hb4 (cell_alloc _ f0)
  have f1' := cell_below' hb4 (cell_alloc _ f1)
  have Z1 := Lib.hid (RowAt_below Y1.out hb4)
  have Z2 := Lib.hid (RowAt_below Y2.out hb4)
  have Z3 := Lib.hid (RowAt_below HL.out B5.out)
  have Z4 := Lib.hid (RowAt_below HR.out B5.out)
  clear hb4 e0 e1 f0 f1 g0 g1
  go_wp2_with fail
  refine (sameBook_yes _ _ _ _ L R _ Z1.out Z2.out Z3.out Z4.out).mono ?_
  rintro e w5 ⟨rfl, hb5⟩
  have B6 := Lib.hid (B5.out.trans (hb5.mono (by omega)))
  clear hb5
  go_wp2
  all_goals first | (go_ret; exact ⟨rfl, B6.out⟩) | (exfalso; first | omega | (simp at *; omega) | (simp at *; done))
end Go.Proofs.Ythngedmmeiiklaa
