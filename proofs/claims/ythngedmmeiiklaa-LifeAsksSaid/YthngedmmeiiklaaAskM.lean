/- life.Ask: the roads on which the request is new. -/
import Derived.Test.YthngedmmeiiklaaAskN
import Derived.Deep.RegionWith
import Derived.Deep.RegionHeld3
namespace Go.Proofs.Ythngedmmeiiklaa
open Go.RowKit

set_option maxHeartbeats 16000000 in
set_option maxRecDepth 100000 in
theorem prog_Ask_retire (vl vr : Value) (L : List Lf) (R : List Rq) (id bk wt an now drain : Int) (L' : List Lf) (ans : Int) (w : World) (hl : RowAt w 6 vl (L.map Lf.cells)) (hr : RowAt w 5 vr (R.map Rq.cells)) (h : BkMay L R) (hn : AkMay ⟨id, 2, bk, wt, an⟩ now drain) (he : idxOf (rqIs id) R = -1) (hf : R.length ≠ 100) (hA : RtAns L ⟨id, 2, bk, 0, an⟩ now drain L' ans) :
    Calls Try.prog 11 #[.agg #[vl, vr], .agg #[.int .i64 id, .int .i64 2, .int .i64 bk, .int .i64 wt, .int .i64 an], .int .i64 now, .int .i64 drain] w (AkPost w L' (R ++ [⟨id, 2, bk, 0, ans⟩]) ans true 0) := by
  have HA := Lib.hid hA
  have h12 := h.1
  have HL := Lib.hid hl; have HR := Lib.hid hr; have H := Lib.hid h; have hR100 := h.2.1; obtain ⟨a, c, rfl, _⟩ := RowAt_shape hl; obtain ⟨a', c', rfl, _⟩ := RowAt_shape hr; have HQ : Hid (RqQ ⟨id, 2, bk, wt, an⟩ true) := Or.inl ⟨hn.1, rfl⟩; obtain ⟨_, ⟨h0, h1⟩, h2, h3⟩ := hn; clear hl hr h
  have HE := Lib.hid he
  have hfe : ((R.length : Int) == 100) = false := by rw [beq_eq_false_iff_ne]; omega
  have hR99 : R.length ≤ 99 := by omega
  
  obtain ⟨i1, ki, ki0, ki1, ki2⟩ := info_parts info_rq
  clear he hf hA
  go_enter Try.func11, Try.ntmps11
  go_wp2_with fail; refine (prog_open_ok _ _ L R _ (RowAt_alloc (RowAt_alloc (RowAt_alloc HL.out _) _) _) (RowAt_alloc (RowAt_alloc (RowAt_alloc HR.out _) _) _) H.out).mono ?_; rintro e w1 ⟨p, v1, v2, rfl, K1, hb1⟩
  have B1 := Lib.hid ((((((Below.refl w.heap.size w).alloc (Nat.le_refl _) (.cells #[.slice a L.length c, .slice a' R.length c'] 25)).alloc (by simp) (.cells #[.int .i64 id, .int .i64 2, .int .i64 bk, .int .i64 wt, .int .i64 an] 31)).alloc (by first | omega | (simp; done) | (simp; omega)) (.cells #[.slice none 0 0, .slice none 0 0] 25))).trans (hb1.mono (by first | omega | (simp; done) | (simp; omega)))); have hN := Lib.hid (blk_below hb1 (heap_at (w := World.alloc (World.alloc w _) _) (k := w.heap.size + 1 + 1) (.cells #[.slice none 0 0, .slice none 0 0] 25) (by simp)) (by simp)); have hR := Lib.hid (blk_below hb1 ((Below.heap_alloc (w := World.alloc (World.alloc w _) _) (.cells #[.slice none 0 0, .slice none 0 0] 25) (w.heap.size + 1) (by simp)).trans (heap_at (w := World.alloc w _) (k := w.heap.size + 1) (.cells #[.int .i64 id, .int .i64 2, .int .i64 bk, .int .i64 wt, .int .i64 an] 31) (by simp))) (by first | omega | (simp; done) | (simp; omega))); have K1' := Lib.hid K1; have hBp := K1.hB; have lp1 := K1.lt; simp at hBp; clear K1 hb1
  have d0 := blk_cell hR.out 0; have d1 := blk_cell hR.out 1; have d2 := blk_cell hR.out 2; have d3 := blk_cell hR.out 3; have d4 := blk_cell hR.out 4; simp at d0 d1 d2 d3 d4
  go_wp2_with fail; refine (prog_request _ _ _ _ _ _ _ HQ.out).mono ?_; rintro e w2 ⟨rfl, hb2⟩
  have B2 := Lib.hid (B1.out.trans (hb2.mono B1.out.size)); have lN := lt_of_block hN.out; have hN2 := Lib.hid (blk_below hb2 hN.out lN); have hR2 := Lib.hid (blk_below hb2 hR.out (lt_of_block hR.out)); have K2 := Lib.hid (K1'.out.below hb2); have s2 := hb2.size; clear hb2 d0 d1 d2 d3 d4; have p0 := blk_cell K2.out.hh 0; have p1 := blk_cell K2.out.hh 1; have lp2 := K2.out.lt; have r20 := blk_cell hR2.out 0; have lr2 := lt_of_block hR2.out; simp at p0 p1 r20
  have RR2 := Lib.hid K2.out.r2.1
  obtain ⟨a1, b1, rfl, _⟩ := owns_shape K2.out.o1
  obtain ⟨x2, y2, rfl, _⟩ := owns_shape K2.out.o2
  go_wp2_with fail
  refine (ixcRq_any 28 ⟨w.heap.size + 1, 0, none⟩ (fun _ _ => rfl) (rqIs id) _ R _ RR2.out (by omega) (fun x _ w' hb' => ask1 x _ id w' (cell_below' hb' r20))).mono ?_
  rintro e w3 ⟨rfl, hb3⟩
  rw [HE.out]
  have K3 := Lib.hid (K2.out.below hb3)
  have B3' := Lib.hid (B2.out.trans (hb3.mono B2.out.size))
  have hN3 := Lib.hid (blk_below hb3 hN2.out (lt_of_block hN2.out))
  have hR3 := blk_below hb3 hR2.out lr2
  have s3 := hb3.size
  have r30 := blk_cell hR3 0
  have r31 := blk_cell hR3 1
  have r32 := blk_cell hR3 2
  have r33 := blk_cell hR3 3
  have r34 := blk_cell hR3 4
  have rf3 := blk_free hR3 3
  have rf4 := blk_free hR3 4
  have lN3 := lt_of_block hN3.out
  have lR3 := lt_of_block hR3
  simp at r30 r31 r32 r33 r34
  have p30 := blk_cell K3.out.hh 0
  have p31 := blk_cell K3.out.hh 1
  have lp3 := K3.out.lt
  simp at p30 p31
  have ne1 : w.heap.size + 1 + 1 ≠ p := by omega
  have ne3 : w.heap.size + 1 ≠ p := by omega
  have HR3 := Lib.hid hR3
  clear hb3 p0 p1 r20 hR2 RR2 hR3 hN hR hN2
  obtain ⟨B, hBd⟩ : ∃ B, B = w.heap.size + 1 + 1 + 1 := ⟨_, rfl⟩
  have HJ : Hid (∀ W, BkAt (w.heap.size + 1 + 1 + 1) W p (.slice a1 L.length b1) (.slice x2 R.length y2) L R → Calls Try.prog 30 #[.pointer (some ⟨p, 0, none⟩), .agg #[.int .i64 id, .int .i64 2, .int .i64 bk, .int .i64 0, .int .i64 an], .int .i64 now, .int .i64 drain] W (JnPost (w.heap.size + 1 + 1 + 1) W p (.slice x2 R.length y2) L' R ans)) := fun W hW => prog_retire _ p _ _ L R id 2 bk 0 an now drain L' ans W hW h12 ⟨⟨h0, h1⟩, h2, h3⟩ HA.out
  have K3s : Hid (BkAt (w.heap.size + 1 + 1 + 1) w3 p (.slice a1 L.length b1) (.slice x2 R.length y2) L R) := by have := K3.out; simp only [World.size_alloc] at this; exact this
  rw [← hBd] at HJ K3s
  have lB3 : B ≤ w3.heap.size := by have := K3s.out.hB; omega
  have BW := Lib.hid ((B3'.out).setCell (p := ⟨w.heap.size + 1, 3, none⟩) (by show _ ≤ w.heap.size + 1; omega) (.int .i64 0))
  have HRW := Lib.hid (blk_set (j := 3) HR3.out (.int .i64 0))
  have HNW3 := Lib.hid (blk_set_ne (j := 3) (u := .int .i64 0) hN3.out (show w.heap.size + 1 + 1 ≠ w.heap.size + 1 by omega))
  have K3W : Hid (BkAt B (w3.setCell ⟨w.heap.size + 1, 3, none⟩ (.int .i64 0)) p (.slice a1 L.length b1) (.slice x2 R.length y2) L R) := ⟨K3s.out.hB, blk_set_ne K3s.out.hh (Ne.symm ne3), ownsRow_setCell_below K3s.out.o1 (by show w.heap.size + 1 < B; omega) _, ownsRow_setCell_below K3s.out.o2 (by show w.heap.size + 1 < B; omega) _, K3s.out.l1, K3s.out.l2, K3s.out.dis⟩
  go_wp2_with fail
  refine (HJ.out _ K3W.out).mono ?_
  generalize w3.setCell ⟨w.heap.size + 1, 3, none⟩ (.int .i64 0) = ww at BW HRW HNW3 K3W ⊢
  have lBw : B ≤ ww.heap.size := by have := K3W.out.hB; have := K3W.out.lt; omega
  clear K3 B3' hN3 K3s HR3 s3 lN3 lR3 lp3 lB3 r30 r31 r32 r33 r34 rf3 rf4 p30 p31
  rintro e w4 ⟨rfl, ⟨v1', hO⟩, hb4⟩
  have hr4 := blk_below hb4 HRW.out (by omega)
  have hN4 := blk_below hb4 HNW3.out (by omega)
  have BZ := Lib.hid ((BW.out.trans (hb4.mono (by omega))).setCell (p := ⟨w.heap.size + 1, 4, none⟩) (by show _ ≤ w.heap.size + 1; omega) (.int .i64 ans))
  have q4 := blk_cell hr4 4
  have qf4 := blk_free hr4 4
  simp at q4
  have lr4 := lt_of_block hr4
  have hrz := blk_set (j := 4) hr4 (.int .i64 ans)
  have hNz := blk_set_ne (j := 4) (u := .int .i64 ans) hN4 (show w.heap.size + 1 + 1 ≠ w.heap.size + 1 by omega)
  have KZ : Hid (BkO B (w4.setCell ⟨w.heap.size + 1, 4, none⟩ (.int .i64 ans)) p v1' (.slice x2 R.length y2) L' R) := ⟨hO.hB, blk_set_ne hO.hh (Ne.symm ne3), ownsRow_setCell_below hO.o1 (by show w.heap.size + 1 < B; omega) _, ownsRow_setCell_below hO.o2 (by show w.heap.size + 1 < B; omega) _⟩
  have lz := hb4.size
  clear hb4 hN4
  go_wp2_with fail
  generalize w4.setCell ⟨w.heap.size + 1, 4, none⟩ (.int .i64 ans) = wz at BZ KZ hrz hNz ⊢
  have e0 := blk_cell hrz 0
  have e1' := blk_cell hrz 1
  have e2 := blk_cell hrz 2
  have e3 := blk_cell hrz 3
  have e4 := blk_cell hrz 4
  have lrz := lt_of_block hrz
  have lNz := lt_of_block hNz
  simp at e0 e1' e2 e3 e4
  have hBp2 := KZ.out.hB
  clear hO hr4 q4 qf4 lr4 lz
  obtain ⟨x1, y1, rfl, _⟩ := owns_shape KZ.out.o1
  have p50 := blk_cell KZ.out.hh 0
  have p51 := blk_cell KZ.out.hh 1
  have pf51 := blk_free KZ.out.hh 1
  have lpz := KZ.out.lt
  simp at p50 p51
  have HOW : Hid (((wz.drew).alloc (.cells #[.int .i64 id, .int .i64 2, .int .i64 bk, .int .i64 0, .int .i64 ans] 31)).ownsRow B 31 5 (.slice x2 R.length y2) R.length (R.map Rq.cells).flatten) := own_keep KZ.out.o2 (((Below.refl wz.heap.size wz).drew).alloc (Nat.le_refl _) _)
  have HNW : Hid (∀ j u, (Rq.cells ⟨id, 2, bk, 0, ans⟩)[j]? = some u → ((wz.drew).alloc (.cells #[.int .i64 id, .int .i64 2, .int .i64 bk, .int .i64 0, .int .i64 ans] 31)).cell? ((⟨wz.heap.size, 0, none⟩ : Addr).add j) = some u) := news_one (w := wz.drew) (Rq.cells ⟨id, 2, bk, 0, ans⟩) 31
  have HON : Hid (∀ u ∈ Rq.cells ⟨id, 2, bk, 0, ans⟩, u.oneCell' = true) := by intro u hu; simp [Rq.cells] at hu; rcases hu with rfl | rfl | rfl | rfl | rfl <;> rfl
  have HL1 : Hid (R.length + 1 ≤ maxLen) := by show _ ≤ _; unfold maxLen; omega
  have HL2 : Hid ((R.length + 1) * 40 ≤ 140737488355328) := by show _ ≤ _; omega
  have HL3 : Hid (B ≤ ((wz.drew).alloc (.cells #[.int .i64 id, .int .i64 2, .int .i64 bk, .int .i64 0, .int .i64 ans] 31)).heap.size) := by show B ≤ _; simp; omega
  have HAft : Hid (∀ v' w6, w6.ownsRow B 31 5 v' (R.length + 1) ((R.map Rq.cells).flatten ++ Rq.cells ⟨id, 2, bk, 0, ans⟩) → ((wz.drew).alloc (.cells #[.int .i64 id, .int .i64 2, .int .i64 bk, .int .i64 0, .int .i64 ans] 31)).grownBy w6 (Value.slice x2 R.length y2).ownBlock → Hid (w6.cell? ⟨w.heap.size + 1, 0, none⟩ = some (.int .i64 id) ∧ w6.cell? ⟨w.heap.size + 1, 1, none⟩ = some (.int .i64 2) ∧ w6.cell? ⟨w.heap.size + 1, 2, none⟩ = some (.int .i64 bk) ∧ w6.cell? ⟨w.heap.size + 1, 3, none⟩ = some (.int .i64 0) ∧ w6.cell? ⟨w.heap.size + 1, 4, none⟩ = some (.int .i64 ans)) ∧ Hid (w6.cell? ⟨p, 1, none⟩ = some (.slice x2 R.length y2) ∧ w6.frozen? ⟨p, 1, none⟩ = false ∧ w6.heap[p]? = some (.cells #[.slice x1 L'.length y1, .slice x2 R.length y2] 56 (0, 0)) ∧ w6.ownsRow B 44 6 (.slice x1 L'.length y1) L'.length (L'.map Lf.cells).flatten ∧ w6.ownsRow B 31 5 v' (R.length + 1) ((R ++ [Rq.mk id 2 bk 0 ans]).map Rq.cells).flatten ∧ w6.heap[w.heap.size + 1 + 1]? = some (.cells #[.slice none 0 0, .slice none 0 0] 25 (0, 0)) ∧ Below w.heap.size w w6)) := by
    intro v' w6 ho hg
    have hh := KZ.out.hh
    have npx := own_ne KZ.out.o2 hh (by decide)
    have nlt : ∀ b, (Value.slice x2 R.length y2).ownBlock = some b → B ≤ b := fun b hb => (KZ.out.o2.lt b hb).1
    have hp6 : w6.heap[p]? = some (.cells #[.slice x1 L'.length y1, .slice x2 R.length y2] 56 (0, 0)) := (hg.block p (by simp; omega) (Ne.symm npx)).trans ((Below.heap_alloc (w := wz.drew) _ _ lpz).trans hh)
    have hr6 : ∀ o, w6.cell? ⟨w.heap.size + 1, o, none⟩ = wz.cell? ⟨w.heap.size + 1, o, none⟩ := fun o => World.cell?_of_block (a := ⟨w.heap.size + 1, o, none⟩) ((hg.block (w.heap.size + 1) (by simp; omega) (fun e => by have := nlt _ e.symm; omega)).trans (Below.heap_alloc (w := wz.drew) _ _ (by show _ < wz.heap.size; omega)))
    refine ⟨⟨(hr6 0).trans e0, (hr6 1).trans e1', (hr6 2).trans e2, (hr6 3).trans e3, (hr6 4).trans e4⟩, by rw [blk_cell hp6]; rfl, blk_free hp6 1, hp6, ?_, by simpa using ho, ?_, ?_⟩
    · obtain ⟨q1, q2 | ⟨gg, c2, cur, q3, q4, q5, q6⟩⟩ := KZ.out.o1
      · exact ⟨q1, .inl q2⟩
      · exact ⟨q1, .inr ⟨gg, c2, cur, q3, q4, (hg.block gg (by have := lt_of_block q5; simp; omega) (Ne.symm (own_ne KZ.out.o2 q5 (by decide)))).trans ((Below.heap_alloc (w := wz.drew) _ _ (lt_of_block q5)).trans q5), q6⟩⟩
    · exact (hg.block _ (by simp; omega) (fun e => by have := nlt _ e.symm; omega)).trans ((Below.heap_alloc (w := wz.drew) _ _ (by show _ < wz.heap.size; omega)).trans hNz)
    · exact ((BZ.out.drew).alloc (by have := BZ.out.size; exact this) _).grown hg (by have := BZ.out.size; simp; omega) (fun b hb => by have := nlt b hb; omega)
  go_wp2_with fail
  refine wp_region_noPanic ?_
  refine wp_region_held_drew (S := fun w' => w'.cell? ⟨w.heap.size + 1, 0, none⟩ = some (.int .i64 id) ∧ w'.cell? ⟨w.heap.size + 1, 1, none⟩ = some (.int .i64 2) ∧ w'.cell? ⟨w.heap.size + 1, 2, none⟩ = some (.int .i64 bk) ∧ w'.cell? ⟨w.heap.size + 1, 3, none⟩ = some (.int .i64 0) ∧ w'.cell? ⟨w.heap.size + 1, 4, none⟩ = some (.int .i64 ans)) (by kernel_rfl) ?hb (fun hHeld => ?_)
  case hb => exact ⟨e0, e1', e2, e3, e4⟩
  refine wpAnyH_take (i := 0) (v := ?tv0) (by simp only [List.getElem?_toArray, List.getElem?_cons_zero]; exact rfl) (by kernel_rfl) (by kernel_rfl) (by kernel_rfl) (fun _ _ _ h => h) (Or.inl ⟨by rfl, ?ty0⟩) (by assumption) ?_
  case ty0 => (intro w' hSw; (try dsimp only at hSw); obtain ⟨s0, s1, s2, s3, s4⟩ := hSw; go_simp; (try with_reducible rfl))
  (try simp only [Act.put, List.setIfInBounds_toArray, List.set_cons_zero, List.set_cons_succ])
  refine wpAnyH_take (i := 1) (v := ?tv1) (by simp only [List.getElem?_toArray, List.getElem?_cons_zero, List.getElem?_cons_succ]; exact rfl) (by kernel_rfl) (by kernel_rfl) (by kernel_rfl) (fun _ _ _ h => h) (Or.inl ⟨by rfl, ?ty1⟩) (by assumption) ?_
  case ty1 => (intro w' hSw; (try dsimp only at hSw); obtain ⟨s0, s1, s2, s3, s4⟩ := hSw; go_simp; (try with_reducible rfl))
  (try simp only [Act.put, List.setIfInBounds_toArray, List.set_cons_zero, List.set_cons_succ])
  refine wpAnyH_take (i := 2) (v := ?tv2) (by simp only [List.getElem?_toArray, List.getElem?_cons_zero, List.getElem?_cons_succ]; exact rfl) (by kernel_rfl) (by kernel_rfl) (by kernel_rfl) (fun _ _ _ h => h) (Or.inl ⟨by rfl, ?ty2⟩) (by assumption) ?_
  case ty2 => (intro w' hSw; (try dsimp only at hSw); obtain ⟨s0, s1, s2, s3, s4⟩ := hSw; go_simp; (try with_reducible rfl))
  (try simp only [Act.put, List.setIfInBounds_toArray, List.set_cons_zero, List.set_cons_succ])
  refine wpAnyH_take (i := 3) (v := ?tv3) (by simp only [List.getElem?_toArray, List.getElem?_cons_zero, List.getElem?_cons_succ]; exact rfl) (by kernel_rfl) (by kernel_rfl) (by kernel_rfl) (fun _ _ _ h => h) (Or.inl ⟨by rfl, ?ty3⟩) (by assumption) ?_
  case ty3 => (intro w' hSw; (try dsimp only at hSw); obtain ⟨s0, s1, s2, s3, s4⟩ := hSw; go_simp; (try with_reducible rfl))
  (try simp only [Act.put, List.setIfInBounds_toArray, List.set_cons_zero, List.set_cons_succ])
  refine wpAnyH_take (i := 4) (v := ?tv4) (by simp only [List.getElem?_toArray, List.getElem?_cons_zero, List.getElem?_cons_succ]; exact rfl) (by kernel_rfl) (by kernel_rfl) (by kernel_rfl) (fun _ _ _ h => h) (Or.inl ⟨by rfl, ?ty4⟩) (by assumption) ?_
  case ty4 => (intro w' hSw; (try dsimp only at hSw); obtain ⟨s0, s1, s2, s3, s4⟩ := hSw; go_simp; (try with_reducible rfl))
  (try simp only [Act.put, List.setIfInBounds_toArray, List.set_cons_zero, List.set_cons_succ])
  refine wpAnyH_take (i := 6) (v := ?tv6) (by simp only [List.getElem?_toArray, List.getElem?_cons_zero, List.getElem?_cons_succ]; exact rfl) (by kernel_rfl) (by kernel_rfl) (by kernel_rfl) (fun _ _ _ h => h) (Or.inl ⟨by rfl, ?ty6⟩) (by assumption) ?_
  case ty6 => (intro w' hSw; (try dsimp only at hSw); obtain ⟨s0, s1, s2, s3, s4⟩ := hSw; go_simp; (try with_reducible rfl))
  (try simp only [Act.put, List.setIfInBounds_toArray, List.set_cons_zero, List.set_cons_succ])
  refine wpAnyH_ready (rs := [5, 7]) (by kernel_rfl) (by simp) ?_
  refine AllReadyH.cons (by simp only [List.getElem?_toArray, List.getElem?_cons_zero, List.getElem?_cons_succ]; exact rfl) (fun K hK => ?_) (AllReadyH.cons (by simp only [List.getElem?_toArray, List.getElem?_cons_zero, List.getElem?_cons_succ]; exact rfl) (fun K hK => ?_) AllReadyH.nil)
  · skip
    go_simp
    refine hK.out _ _ ?as5 (fun hHeld => ?_)
    case as5 => exact hHeld
    clear hK K
    (try simp only [Act.put, List.setIfInBounds_toArray, List.set_cons_zero, List.set_cons_succ])
    refine wpAnyH_ready (rs := [7]) (by kernel_rfl) (by simp) ?_
    refine AllReadyH.cons (by simp only [List.getElem?_toArray, List.getElem?_cons_zero, List.getElem?_cons_succ]; exact rfl) (fun K hK => ?_) AllReadyH.nil
    go_simp
    refine hK.out _ _ ?as7 (fun hHeld => ?_)
    case as7 => (obtain ⟨s0, s1, s2, s3, s4⟩ := hHeld; exact ⟨cell_alloc _ s0, cell_alloc _ s1, cell_alloc _ s2, cell_alloc _ s3, cell_alloc _ s4⟩)
    clear hK K
    (try simp only [Act.put, List.setIfInBounds_toArray, List.set_cons_zero, List.set_cons_succ])
    refine wpAnyH_ready (rs := [8]) (by kernel_rfl) (by simp) ?_
    refine AllReadyH.cons (by simp only [List.getElem?_toArray, List.getElem?_cons_zero, List.getElem?_cons_succ]; exact rfl) (fun K hK => ?_) AllReadyH.nil
    rw [if_pos (by rfl)]
    refine wp_append_own _ _ _ 23 rfl B 31 i1 (.agg #[.int .i64 0, .int .i64 0, .int .i64 0, .int .i64 0, .int .i64 0]) 5 40 Try.underlying23 ki ki0 ki1 ki2 rfl (by decide) (.slice x2 R.length y2) R.length (R.map Rq.cells).flatten rfl HOW.out ⟨wz.heap.size, 0, none⟩ 1 1 (Rq.cells ⟨id, 2, bk, 0, ans⟩) rfl rfl HNW.out HON.out HL1.out HL2.out HL3.out ?_
    intro v' w6 hown' hgrow _
    obtain ⟨x3, y3, rfl, _⟩ := owns_shape hown'
    obtain ⟨HS6, HRest⟩ := HAft.out _ _ hown' hgrow
    have c6 := HRest.out.1
    have f6 := HRest.out.2.1
    refine hK.out _ _ ?as8 (fun hHeld => ?_)
    case as8 => exact HS6.out
    clear hK K hown' hgrow
    (try simp only [Act.put, List.setIfInBounds_toArray, List.set_cons_zero, List.set_cons_succ])
    refine wpAnyH_take (i := 9) (v := ?av9) (by simp only [List.getElem?_toArray, List.getElem?_cons_zero, List.getElem?_cons_succ]; exact rfl) (by kernel_rfl) (by kernel_rfl) (by kernel_rfl) (fun _ _ _ h => h) (Or.inl ⟨by rfl, ?ay9⟩) (by assumption) ?_
    case ay9 => (intro w' hSw; (try dsimp only at hSw); obtain ⟨s0, s1, s2, s3, s4⟩ := hSw; go_simp; (try with_reducible rfl))
    (try simp only [Act.put, List.setIfInBounds_toArray, List.set_cons_zero, List.set_cons_succ])
    refine wpAnyH_take (i := 10) (v := ?av10) (by simp only [List.getElem?_toArray, List.getElem?_cons_zero, List.getElem?_cons_succ]; exact rfl) (by kernel_rfl) (by kernel_rfl) (by kernel_rfl) (fun _ _ _ h => h) (Or.inl ⟨by rfl, ?ay10⟩) (by assumption) ?_
    case ay10 => (intro w' hSw; (try dsimp only at hSw); obtain ⟨s0, s1, s2, s3, s4⟩ := hSw; go_simp; (try with_reducible rfl))
    (try simp only [Act.put, List.setIfInBounds_toArray, List.set_cons_zero, List.set_cons_succ])
    refine wpAnyH_take (i := 11) (v := ?av11) (by simp only [List.getElem?_toArray, List.getElem?_cons_zero, List.getElem?_cons_succ]; exact rfl) (by kernel_rfl) (by kernel_rfl) (by kernel_rfl) (fun _ _ _ h => h) (Or.inl ⟨by rfl, ?ay11⟩) (by assumption) ?_
    case ay11 => (intro w' hSw; (try dsimp only at hSw); obtain ⟨s0, s1, s2, s3, s4⟩ := hSw; go_simp; (try with_reducible rfl))
    (try simp only [Act.put, List.setIfInBounds_toArray, List.set_cons_zero, List.set_cons_succ])
    refine wpAnyH_ready (rs := [12]) (by kernel_rfl) (by simp) ?_
    refine AllReadyH.cons (by simp only [List.getElem?_toArray, List.getElem?_cons_zero, List.getElem?_cons_succ]; exact rfl) (fun K hK => ?_) AllReadyH.nil
    go_simp
    refine hK.out _ _ ?as12 (fun hHeld => ?_)
    case as12 => (obtain ⟨s0, s1, s2, s3, s4⟩ := hHeld; exact ⟨(cell_set_ne (by omega)).trans s0, (cell_set_ne (by omega)).trans s1, (cell_set_ne (by omega)).trans s2, (cell_set_ne (by omega)).trans s3, (cell_set_ne (by omega)).trans s4⟩)
    clear hK K
    (try simp only [Act.put, List.setIfInBounds_toArray, List.set_cons_zero, List.set_cons_succ])
    refine wpAnyH_done (by kernel_rfl) ?_ _
    refine NoPanic.normal ?_
    have hx6 := HRest.out.2.2.1
    have KZ6 := Lib.hid (HRest.out.2.2)
    have z0 := blk_cell (blk_set (j := 1) hx6 (.slice x3 (R.length + 1) y3)) 0
    have z1 := blk_cell (blk_set (j := 1) hx6 (.slice x3 (R.length + 1) y3)) 1
    simp at z0 z1
    obtain ⟨u0, u1, u2, u3, u4⟩ := hHeld
    have lp6 : p < w6.heap.size := lt_of_block hx6
    have ln6 : w.heap.size + 1 + 1 < w6.heap.size := by omega
    have hN6 := KZ6.out.2.2.2.1
    have n0 := (cell_set_ne (u := .slice x3 (R.length + 1) y3) (g := p) (i := 1) ne1).trans (blk_cell hN6 0)
    have n1 := (cell_set_ne (u := .slice x3 (R.length + 1) y3) (g := p) (i := 1) ne1).trans (blk_cell hN6 1)
    have g0 := blk_free (blk_set_ne (j := 1) (u := .slice x3 (R.length + 1) y3) hN6 ne1) 0
    have g1 := blk_free (blk_set_ne (j := 1) (u := .slice x3 (R.length + 1) y3) hN6 ne1) 1
    simp at n0 n1
    have HF1 : Hid (RowNew B (w6.setCell ⟨p, 1, none⟩ (.slice x3 (R.length + 1) y3)) 6 (.slice x1 L'.length y1) (L'.map Lf.cells)) := RowNew_of_owns (ownsRow_setCell_other KZ6.out.2.1 (own_ne KZ6.out.2.1 hx6 (by decide)) _) (by simp) (lenb_Lf L')
    have HF2 : Hid (RowNew B (w6.setCell ⟨p, 1, none⟩ (.slice x3 (R.length + 1) y3)) 5 (.slice x3 (R.length + 1) y3) ((R ++ [Rq.mk id 2 bk 0 ans]).map Rq.cells)) := RowNew_of_owns (n := R.length + 1) (ownsRow_setCell_other KZ6.out.2.2.1 (own_ne KZ6.out.2.2.1 hx6 (by decide)) _) (by simp) (lenb_Rq _)
    have LB2 : Hid (w.heap.size + 1 + 1 < B) := by show _ < _; omega
    have HFB : Hid (Below w.heap.size w (w6.setCell ⟨p, 1, none⟩ (.slice x3 (R.length + 1) y3))) := KZ6.out.2.2.2.2.setCell (by show _ ≤ p; omega) _
    clear hx6 hN6 c6 f6
    go_wp2_with fail
    go_region
    all_goals go_wp2
    all_goals (refine bodyPost_ret (v := .tuple #[.agg #[.slice x1 L'.length y1, .slice x3 (R.length + 1) y3], .int .i64 ans, .bool true, .int .i64 0]) ?_ rfl ⟨_, _, rfl, (RowNew_setCell (RowNew_setCell HF1.out (p := ⟨w.heap.size + 1 + 1, 0, none⟩) LB2.out _) (p := ⟨w.heap.size + 1 + 1, 1, none⟩) LB2.out _).1, (RowNew_setCell (RowNew_setCell HF2.out (p := ⟨w.heap.size + 1 + 1, 0, none⟩) LB2.out _) (p := ⟨w.heap.size + 1 + 1, 1, none⟩) LB2.out _).1, ((HFB.out.setCell (by simp; omega) _).setCell (by simp; omega) _).drew⟩; simp [results, Try.results11, go_sem, *])
  · skip
    go_simp
    refine hK.out _ _ ?bs7 (fun hHeld => ?_)
    case bs7 => (obtain ⟨s0, s1, s2, s3, s4⟩ := hHeld; exact ⟨cell_alloc _ s0, cell_alloc _ s1, cell_alloc _ s2, cell_alloc _ s3, cell_alloc _ s4⟩)
    clear hK K
    (try simp only [Act.put, List.setIfInBounds_toArray, List.set_cons_zero, List.set_cons_succ])
    refine wpAnyH_ready (rs := [5]) (by kernel_rfl) (by simp) ?_
    refine AllReadyH.cons (by simp only [List.getElem?_toArray, List.getElem?_cons_zero, List.getElem?_cons_succ]; exact rfl) (fun K hK => ?_) AllReadyH.nil
    go_simp
    refine hK.out _ _ ?bs5 (fun hHeld => ?_)
    case bs5 => exact hHeld
    clear hK K
    (try simp only [Act.put, List.setIfInBounds_toArray, List.set_cons_zero, List.set_cons_succ])
    refine wpAnyH_ready (rs := [8]) (by kernel_rfl) (by simp) ?_
    refine AllReadyH.cons (by simp only [List.getElem?_toArray, List.getElem?_cons_zero, List.getElem?_cons_succ]; exact rfl) (fun K hK => ?_) AllReadyH.nil
    rw [if_pos (by rfl)]
    refine wp_append_own _ _ _ 23 rfl B 31 i1 (.agg #[.int .i64 0, .int .i64 0, .int .i64 0, .int .i64 0, .int .i64 0]) 5 40 Try.underlying23 ki ki0 ki1 ki2 rfl (by decide) (.slice x2 R.length y2) R.length (R.map Rq.cells).flatten rfl HOW.out ⟨wz.heap.size, 0, none⟩ 1 1 (Rq.cells ⟨id, 2, bk, 0, ans⟩) rfl rfl HNW.out HON.out HL1.out HL2.out HL3.out ?_
    intro v' w6 hown' hgrow _
    obtain ⟨x3, y3, rfl, _⟩ := owns_shape hown'
    obtain ⟨HS6, HRest⟩ := HAft.out _ _ hown' hgrow
    have c6 := HRest.out.1
    have f6 := HRest.out.2.1
    refine hK.out _ _ ?bs8 (fun hHeld => ?_)
    case bs8 => exact HS6.out
    clear hK K hown' hgrow
    (try simp only [Act.put, List.setIfInBounds_toArray, List.set_cons_zero, List.set_cons_succ])
    refine wpAnyH_take (i := 9) (v := ?bv9) (by simp only [List.getElem?_toArray, List.getElem?_cons_zero, List.getElem?_cons_succ]; exact rfl) (by kernel_rfl) (by kernel_rfl) (by kernel_rfl) (fun _ _ _ h => h) (Or.inl ⟨by rfl, ?by9⟩) (by assumption) ?_
    case by9 => (intro w' hSw; (try dsimp only at hSw); obtain ⟨s0, s1, s2, s3, s4⟩ := hSw; go_simp; (try with_reducible rfl))
    (try simp only [Act.put, List.setIfInBounds_toArray, List.set_cons_zero, List.set_cons_succ])
    refine wpAnyH_take (i := 10) (v := ?bv10) (by simp only [List.getElem?_toArray, List.getElem?_cons_zero, List.getElem?_cons_succ]; exact rfl) (by kernel_rfl) (by kernel_rfl) (by kernel_rfl) (fun _ _ _ h => h) (Or.inl ⟨by rfl, ?by10⟩) (by assumption) ?_
    case by10 => (intro w' hSw; (try dsimp only at hSw); obtain ⟨s0, s1, s2, s3, s4⟩ := hSw; go_simp; (try with_reducible rfl))
    (try simp only [Act.put, List.setIfInBounds_toArray, List.set_cons_zero, List.set_cons_succ])
    refine wpAnyH_take (i := 11) (v := ?bv11) (by simp only [List.getElem?_toArray, List.getElem?_cons_zero, List.getElem?_cons_succ]; exact rfl) (by kernel_rfl) (by kernel_rfl) (by kernel_rfl) (fun _ _ _ h => h) (Or.inl ⟨by rfl, ?by11⟩) (by assumption) ?_
    case by11 => (intro w' hSw; (try dsimp only at hSw); obtain ⟨s0, s1, s2, s3, s4⟩ := hSw; go_simp; (try with_reducible rfl))
    (try simp only [Act.put, List.setIfInBounds_toArray, List.set_cons_zero, List.set_cons_succ])
    refine wpAnyH_ready (rs := [12]) (by kernel_rfl) (by simp) ?_
    refine AllReadyH.cons (by simp only [List.getElem?_toArray, List.getElem?_cons_zero, List.getElem?_cons_succ]; exact rfl) (fun K hK => ?_) AllReadyH.nil
    go_simp
    refine hK.out _ _ ?bs12 (fun hHeld => ?_)
    case bs12 => (obtain ⟨s0, s1, s2, s3, s4⟩ := hHeld; exact ⟨(cell_set_ne (by omega)).trans s0, (cell_set_ne (by omega)).trans s1, (cell_set_ne (by omega)).trans s2, (cell_set_ne (by omega)).trans s3, (cell_set_ne (by omega)).trans s4⟩)
    clear hK K
    (try simp only [Act.put, List.setIfInBounds_toArray, List.set_cons_zero, List.set_cons_succ])
    refine wpAnyH_done (by kernel_rfl) ?_ _
    refine NoPanic.normal ?_
    have hx6 := HRest.out.2.2.1
    have KZ6 := Lib.hid (HRest.out.2.2)
    have z0 := blk_cell (blk_set (j := 1) hx6 (.slice x3 (R.length + 1) y3)) 0
    have z1 := blk_cell (blk_set (j := 1) hx6 (.slice x3 (R.length + 1) y3)) 1
    simp at z0 z1
    obtain ⟨u0, u1, u2, u3, u4⟩ := hHeld
    have lp6 : p < w6.heap.size := lt_of_block hx6
    have ln6 : w.heap.size + 1 + 1 < w6.heap.size := by omega
    have hN6 := KZ6.out.2.2.2.1
    have n0 := (cell_set_ne (u := .slice x3 (R.length + 1) y3) (g := p) (i := 1) ne1).trans (blk_cell hN6 0)
    have n1 := (cell_set_ne (u := .slice x3 (R.length + 1) y3) (g := p) (i := 1) ne1).trans (blk_cell hN6 1)
    have g0 := blk_free (blk_set_ne (j := 1) (u := .slice x3 (R.length + 1) y3) hN6 ne1) 0
    have g1 := blk_free (blk_set_ne (j := 1) (u := .slice x3 (R.length + 1) y3) hN6 ne1) 1
    simp at n0 n1
    have HF1 : Hid (RowNew B (w6.setCell ⟨p, 1, none⟩ (.slice x3 (R.length + 1) y3)) 6 (.slice x1 L'.length y1) (L'.map Lf.cells)) := RowNew_of_owns (ownsRow_setCell_other KZ6.out.2.1 (own_ne KZ6.out.2.1 hx6 (by decide)) _) (by simp) (lenb_Lf L')
    have HF2 : Hid (RowNew B (w6.setCell ⟨p, 1, none⟩ (.slice x3 (R.length + 1) y3)) 5 (.slice x3 (R.length + 1) y3) ((R ++ [Rq.mk id 2 bk 0 ans]).map Rq.cells)) := RowNew_of_owns (n := R.length + 1) (ownsRow_setCell_other KZ6.out.2.2.1 (own_ne KZ6.out.2.2.1 hx6 (by decide)) _) (by simp) (lenb_Rq _)
    have LB2 : Hid (w.heap.size + 1 + 1 < B) := by show _ < _; omega
    have HFB : Hid (Below w.heap.size w (w6.setCell ⟨p, 1, none⟩ (.slice x3 (R.length + 1) y3))) := KZ6.out.2.2.2.2.setCell (by show _ ≤ p; omega) _
    clear hx6 hN6 c6 f6
    go_wp2_with fail
    go_region
    all_goals go_wp2
    all_goals (refine bodyPost_ret (v := .tuple #[.agg #[.slice x1 L'.length y1, .slice x3 (R.length + 1) y3], .int .i64 ans, .bool true, .int .i64 0]) ?_ rfl ⟨_, _, rfl, (RowNew_setCell (RowNew_setCell HF1.out (p := ⟨w.heap.size + 1 + 1, 0, none⟩) LB2.out _) (p := ⟨w.heap.size + 1 + 1, 1, none⟩) LB2.out _).1, (RowNew_setCell (RowNew_setCell HF2.out (p := ⟨w.heap.size + 1 + 1, 0, none⟩) LB2.out _) (p := ⟨w.heap.size + 1 + 1, 1, none⟩) LB2.out _).1, ((HFB.out.setCell (by simp; omega) _).setCell (by simp; omega) _).drew⟩; simp [results, Try.results11, go_sem, *])
end Go.Proofs.Ythngedmmeiiklaa
