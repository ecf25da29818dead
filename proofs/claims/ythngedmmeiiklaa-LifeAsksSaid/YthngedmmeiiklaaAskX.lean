/- usherref.Asked: a join that is answered with an error. -/
import Derived.Test.YthngedmmeiiklaaAskV
import Derived.Deep.RegionWith
namespace Go.Proofs.Ythngedmmeiiklaa
open Go.RowKit

set_option maxHeartbeats 16000000 in
set_option maxRecDepth 100000 in
theorem ref_Asked_jbad (vl vr : Value) (L : List Lf) (R : List Rq) (id bk wt an now drain : Int) (w : World) (hl : RowAt w 6 vl (L.map Lf.cells)) (hr : RowAt w 5 vr (R.map Rq.cells)) (h : BkMay L R) (hn : AkMay ⟨id, 1, bk, wt, an⟩ now drain) (he : idxOf (rqIs id) R = -1) (hf : R.length ≠ 100) (hrg : ¬ ((0 ≤ bk ∧ bk ≤ 11) ∧ (1 ≤ wt ∧ wt ≤ 8))) :
    Calls Try.prog 12 #[.agg #[vl, vr], .agg #[.int .i64 id, .int .i64 1, .int .i64 bk, .int .i64 wt, .int .i64 an], .int .i64 now, .int .i64 drain] w (AkPost w L (R ++ [⟨id, 1, bk, wt, 2⟩]) 2 true 0) := by
  have HE := Lib.hid he
  have HNO := Lib.hid (idxOf_no he)
  have HF := Lib.hid hf
  obtain ⟨i1, ki, ki0, ki1, ki2⟩ := info_parts info_rq
  have hA2 : Hid ((bk < 0 ∨ 11 < bk) ∨ ((0 ≤ bk ∧ bk ≤ 11) ∧ (wt < 1 ∨ 8 < wt))) := by show _ ∨ _; omega
  clear he hf hrg
  have HL := Lib.hid hl
  have HR := Lib.hid hr
  have H : Hid (BkCode L R 0) := Or.inl ⟨h, rfl⟩
  have HM := Lib.hid h
  have h12 := h.1
  have h100 := h.2.1
  have n1 : L.length * 48 ≤ 140737488351232 := by omega
  have n2 : R.length * 40 ≤ 140737488351232 := by omega
  have HQ : Hid (RqQ ⟨id, 1, bk, wt, an⟩ true) := Or.inl ⟨hn.1, rfl⟩
  obtain ⟨_, ⟨r0, r1⟩, r2, r3⟩ := hn
  obtain ⟨a, c, rfl, _, _, _, pl⟩ := RowAt_fn Lf.zero hl
  obtain ⟨a', c', rfl, _, _, _, pr⟩ := RowAt_fn Rq.zero hr
  have PL := Lib.hid pl
  have PR := Lib.hid pr
  clear hl hr h pl pr
  go_enter Try.func12, Try.ntmps12
  go_wp2_with fail
  refine (ref_BookFault _ _ L R 0 _ (RowAt_alloc (RowAt_alloc (RowAt_alloc HL.out _) _) _) (RowAt_alloc (RowAt_alloc (RowAt_alloc HR.out _) _) _) H.out).mono ?_
  rintro e w1 ⟨rfl, hb1⟩
  have B1 := Lib.hid ((((((Below.refl w.heap.size w).alloc (Nat.le_refl _) (.cells #[.slice a L.length c, .slice a' R.length c'] 25)).alloc (by simp) (.cells #[.int .i64 id, .int .i64 1, .int .i64 bk, .int .i64 wt, .int .i64 an] 31)).alloc (by first | omega | (simp; done) | (simp; omega)) (.cells #[.slice none 0 0, .slice none 0 0] 25))).trans (hb1.mono (by first | omega | (simp; done) | (simp; omega))))
  have hN := Lib.hid (blk_below hb1 (heap_at (w := World.alloc (World.alloc w _) _) (k := w.heap.size + 1 + 1) (.cells #[.slice none 0 0, .slice none 0 0] 25) (by simp)) (by simp)); have hR := Lib.hid (blk_below hb1 ((Below.heap_alloc (w := World.alloc (World.alloc w _) _) (.cells #[.slice none 0 0, .slice none 0 0] 25) (w.heap.size + 1) (by simp)).trans (heap_at (w := World.alloc w _) (k := w.heap.size + 1) (.cells #[.int .i64 id, .int .i64 1, .int .i64 bk, .int .i64 wt, .int .i64 an] 31) (by simp))) (by first | omega | (simp; done) | (simp; omega)))
  have hBk : Hid (w1.heap[w.heap.size]? = some (.cells #[.slice a L.length c, .slice a' R.length c'] 25 (0, 0))) := blk_below hb1 ((Below.heap_alloc (w := World.alloc (World.alloc w _) _) (.cells #[.slice none 0 0, .slice none 0 0] 25) w.heap.size (by first | omega | (simp; done) | (simp; omega))).trans ((Below.heap_alloc (w := World.alloc w _) (.cells #[.int .i64 id, .int .i64 1, .int .i64 bk, .int .i64 wt, .int .i64 an] 31) w.heap.size (by first | omega | (simp; done) | (simp; omega))).trans (heap_at (w := w) (k := w.heap.size) (.cells #[.slice a L.length c, .slice a' R.length c'] 25) rfl))) (by first | omega | (simp; done) | (simp; omega))
  have s1 := hb1.size
  simp at s1
  have d0 := blk_cell hR.out 0
  have d1 := blk_cell hR.out 1
  have d2 := blk_cell hR.out 2
  have d3 := blk_cell hR.out 3
  have d4 := blk_cell hR.out 4
  simp at d0 d1 d2 d3 d4
  clear hb1
  go_wp2_with fail
  refine (ref_RequestMay _ _ _ _ _ _ _ HQ.out).mono ?_
  rintro e w2 ⟨rfl, hb2⟩
  have B2 := Lib.hid (B1.out.trans (hb2.mono B1.out.size))
  have hN2 := Lib.hid (blk_below hb2 hN.out (lt_of_block hN.out))
  have hR2 := Lib.hid (blk_below hb2 hR.out (lt_of_block hR.out))
  have hBk2 := Lib.hid (blk_below hb2 hBk.out (lt_of_block hBk.out))
  have s2 := hb2.size
  have b0 := blk_cell hBk2.out 0
  have b1 := blk_cell hBk2.out 1
  have lb := lt_of_block hBk2.out
  simp at b0 b1
  clear hb2 d0 d1 d2 d3 d4 hN hR hBk B1
  go_wp2_with (go_at_call 31; first | (refine (In_yes _ _ _ _ (by omega) (by omega)).mono ?_; rintro e w' ⟨rfl, rfl⟩) | (refine (In_no _ _ _ _ (by omega)).mono ?_; rintro e w' ⟨rfl, rfl⟩))
  --M copy
  refine (ref_BookCopyO _ _ L R _ (RowAt_below HL.out B2.out) (RowAt_below HR.out B2.out) n1 n2).mono ?_
  rintro e w3 ⟨v1, v2, rfl, o1, o2, dis, hb3⟩
  obtain ⟨a1, c1, rfl, _⟩ := owns_shape o1
  obtain ⟨a2, c2, rfl, _⟩ := owns_shape o2
  have s3 := hb3.size
  have K1 : BkG 25 (w.heap.size + 3) (w3.alloc (.cells #[.slice a1 L.length c1, .slice a2 R.length c2] 25)) w3.heap.size (.slice a1 L.length c1) (.slice a2 R.length c2) L R := ⟨by omega, heap_at _ rfl, own_rebase (own_keep o1 ((Below.refl _ _).alloc (Nat.le_refl _) _)) (by omega), own_rebase (own_keep o2 ((Below.refl _ _).alloc (Nat.le_refl _) _)) (by omega), fun b hb => (o1.lt b hb).2, fun b hb => (o2.lt b hb).2, dis⟩
  have A0 : Hid (AqW w (w3.alloc (.cells #[.slice a1 L.length c1, .slice a2 R.length c2] 25)) w3.heap.size (.slice a L.length c) (.slice a' R.length c') (.slice a1 L.length c1) (.slice a2 R.length c2) L R id 1 bk wt an) := ⟨(B2.out.trans (hb3.mono (by omega))).alloc (by omega) _, (Below.heap_alloc _ _ _ (by omega)).trans (blk_below hb3 hBk2.out (by omega)), (Below.heap_alloc _ _ _ (by omega)).trans (blk_below hb3 hR2.out (by omega)), (Below.heap_alloc _ _ _ (by omega)).trans (blk_below hb3 hN2.out (by omega)), K1⟩
  clear K1 o1 o2 dis hb3 b0 b1 lb hN2 hR2 hBk2 B2
  go_wp2_with fail
  obtain ⟨p, hpp⟩ : ∃ p, p = w3.heap.size := ⟨_, rfl⟩
  rw [← hpp] at A0 ⊢
  clear hpp s1 s2 s3
  --M loop
  go_loopw [14] (fun i wr => ∃ k : Nat, k ≤ R.length ∧ i = .int .i64 k ∧ AqW w wr p (.slice a L.length c) (.slice a' R.length c') (.slice a1 L.length c1) (.slice a2 R.length c2) L R id 1 bk wt an ∧ (∀ x ∈ R.take k, rqIs id x = false)) (fun i _ => R.length - (intOf i).toNat)
  case atStart => exact ⟨0, Nat.zero_le _, rfl, A0.out, by simp⟩
  case round =>
    clear A0
    obtain ⟨k, hk, rfl, hA, hno⟩ := hrel
    have A := Lib.hid hA
    have hBp := hA.k.hB
    have b0 := blk_cell hA.hb 0
    have b1 := blk_cell hA.hb 1
    have e0 := blk_cell hA.hr 0
    have e1 := blk_cell hA.hr 1
    have e2 := blk_cell hA.hr 2
    have e3 := blk_cell hA.hr 3
    have e4 := blk_cell hA.hr 4
    have lp := hA.k.lt
    simp at b0 b1 e0 e1 e2 e3 e4
    rcases (show k < R.length ∨ R.length = k by omega) with hlt | heq
    · have hlt' : (k : Int) < (R.length : Int) := by omega
      obtain ⟨bb, bo, rfl, hbb, q⟩ := PR.out (by intro h; rw [h] at hlt; simp at hlt)
      obtain ⟨y, hx⟩ : ∃ x, x = R.getD k Rq.zero := ⟨_, rfl⟩
      have HX := Lib.hid hx
      have p0 : (0 : Int) ≤ (k : Int) := by omega
      have hold : ∀ j, j < 5 → wr.cell? ⟨bb, bo + k * 5 + j, none⟩ = (Rq.cells y)[j]? := fun j hj => by
        rw [hA.bel.cell (p := ⟨bb, bo + k * 5 + j, none⟩) hbb, HX.out]; exact q k j hlt hj
      obtain ⟨y0, y1, y2, y3, y4⟩ := y
      have z0 := hold 0 (by omega)
      have z4 := hold 4 (by omega)
      simp only [Rq.cells, List.getElem?_cons_zero, List.getElem?_cons_succ, Nat.add_zero] at z0 z4
      clear hold hx q hA
      have e5 : w.heap.size ≠ bb := by omega
      by_cases hyn : y0 = id
      rotate_left
      · have hy : (y0 == id) = false := by rw [beq_eq_false_iff_ne]; exact hyn
        have hno' := Lib.hid (idx_step (p := rqIs id) hlt HX.out (show rqIs id _ = false from hy) hno)
        clear hno hyn
        --M miss
        go_wp2_with fail
        go_quiet (fail)
        have AZ := Lib.hid (A.out.below (Below_drewN (n := nq) (Below.refl _ _)))
        clear b0 b1 e0 e1 e2 e3 e4 z0 z4 A lp
        generalize wr.drewN nq = wy at AZ ⊢
        go_wp2
        go_roundw
        case rel => exact ⟨k + 1, by omega, by go_num, AZ.out, hno'.out⟩
        case measure => simp [intOf]; omega
      · exfalso
        have := HNO.out _ (show R.getD k Rq.zero ∈ R by simp [List.getD, hlt])
        rw [← HX.out] at this
        simp [rqIs, hyn] at this
    · have hge : ¬ (k : Int) < (R.length : Int) := by omega
      have hfe : ((R.length : Int) == 100) = false := by rw [beq_eq_false_iff_ne]; have := HF.out; omega
      have p0' := blk_cell hA.k.hh 0
      have p1' := blk_cell hA.k.hh 1
      simp at p0' p1'
      have ne1 : w.heap.size + 1 + 1 ≠ p := by omega
      have ne2 : w.heap.size + 1 ≠ p := by omega
      have eb0 := b0
      clear hA hno heq
      --M at
      go_wp2_with fail
      refine (ref_lifeAt _ _ L bk _ (RowAt_below HL.out A.out.bel) h12).mono ?_
      rintro e w4 ⟨rfl, hb4⟩
      have A4 := Lib.hid (A.out.below hb4)
      clear hb4 b0 b1 e0 e1 e2 e3 e4 p0' p1' lp eb0 A
      have b0 := blk_cell A4.out.hb 0
      have b1 := blk_cell A4.out.hb 1
      have e0 := blk_cell A4.out.hr 0
      have e1 := blk_cell A4.out.hr 1
      have e2 := blk_cell A4.out.hr 2
      have e3 := blk_cell A4.out.hr 3
      have e4 := blk_cell A4.out.hr 4
      have f3 := blk_free A4.out.hr 3
      have f4 := blk_free A4.out.hr 4
      have p0' := blk_cell A4.out.k.hh 0
      have p1' := blk_cell A4.out.k.hh 1
      have pf0 := blk_free A4.out.k.hh 0
      have pf1 := blk_free A4.out.k.hh 1
      have lp := A4.out.k.lt
      have lr4 := lt_of_block A4.out.hr
      simp at b0 b1 e0 e1 e2 e3 e4 p0' p1'
      rcases hA2.out with hA3 | ⟨hA3, hA5⟩
      all_goals
        have T := Lib.hid (((A4.out.box (j := 4) (u := .int .i64 0) (by rfl)).box (j := 4) (u := .int .i64 2) (by rfl)).t)
        have HOW : Hid ((((w4.setCell ⟨w.heap.size + 1, 4, none⟩ (.int .i64 0)).setCell ⟨w.heap.size + 1, 4, none⟩ (.int .i64 2)).alloc (.cells #[.int .i64 id, .int .i64 1, .int .i64 bk, .int .i64 wt, .int .i64 2] 31)).ownsRow (w.heap.size + 3) 31 5 (.slice a2 R.length c2) R.length (R.map Rq.cells).flatten) := own_keep T.out.o2 ((Below.refl _ _).alloc (Nat.le_refl _) _)
        --M jbad
        go_wp2_with first | (go_at_call 31; first | (refine (In_yes _ _ _ _ (by omega) (by omega)).mono ?_; rintro e w' ⟨rfl, rfl⟩) | (refine (In_no _ _ _ _ (by omega)).mono ?_; rintro e w' ⟨rfl, rfl⟩)) | (at_builtin; go_loud (refine wpList_append_own _ rfl _ _ 23 rfl (w.heap.size + 3) 31 i1 (.agg #[.int .i64 0, .int .i64 0, .int .i64 0, .int .i64 0, .int .i64 0]) 5 40 Try.underlying23 ki ki0 ki1 ki2 rfl (by decide) _ R.length _ rfl HOW.out ⟨w4.heap.size, 0, none⟩ 1 1 (Rq.cells ⟨id, 1, bk, wt, 2⟩) rfl rfl (news_lit (w := ((w4.setCell ⟨w.heap.size + 1, 4, none⟩ (.int .i64 0)).setCell ⟨w.heap.size + 1, 4, none⟩ (.int .i64 2))) (by simp) _ 31) ?c1 ?c2 ?c3 ?c4 ?_))
        case c1 => (intro u hu; simp [Rq.cells] at hu; rcases hu with rfl | rfl | rfl | rfl | rfl <;> rfl)
        case c2 => unfold maxLen; omega
        case c3 => omega
        case c4 => (simp; omega)
        intro v' w6x hown' hgrow _
        obtain ⟨x3, y3, rfl, _⟩ := owns_shape hown'
        obtain ⟨h6, hT6⟩ := T.out.grown hown' hgrow
        have c6 := blk_cell h6 1
        have f6 := blk_free h6 1
        have l6 := lt_of_block h6
        simp at c6
        have T6 := Lib.hid hT6
        clear hown' hgrow h6 hT6 T HOW
        go_wp2_with fail
        generalize w6x.setCell ⟨p, 1, none⟩ (.slice x3 (R.length + 1) y3) = wz at T6 ⊢
        clear c6 f6 l6
        have z0 := blk_cell T6.out.hh 0
        have z1 := blk_cell T6.out.hh 1
        have u0 := blk_cell T6.out.hr 0
        have u1 := blk_cell T6.out.hr 1
        have u2 := blk_cell T6.out.hr 2
        have u3 := blk_cell T6.out.hr 3
        have u4 := blk_cell T6.out.hr 4
        have lpz := lt_of_block T6.out.hh
        simp at z0 z1 u0 u1 u2 u3 u4
        have n0 := blk_cell T6.out.hn 0
        have n1' := blk_cell T6.out.hn 1
        have g0 := blk_free T6.out.hn 0
        have g1 := blk_free T6.out.hn 1
        have lnn := lt_of_block T6.out.hn
        simp at n0 n1'
        have F1 : Hid (RowNew (w.heap.size + 3) wz 6 (.slice a1 L.length c1) (L.map Lf.cells)) := RowNew_of_owns T6.out.o1 (by simp) (lenb_Lf _)
        have F2 : Hid (RowNew (w.heap.size + 3) wz 5 (.slice x3 (R.length + 1) y3) ((R ++ [Rq.mk id 1 bk wt 2]).map Rq.cells)) := by have h := T6.out.o2; exact RowNew_of_owns h (by simp) (lenb_Rq _)
        go_region
        all_goals go_wp2
        all_goals (refine bodyPost_ret (v := .tuple #[.agg #[(.slice a1 L.length c1), (.slice x3 (R.length + 1) y3)], .int .i64 2, .bool true, .int .i64 0]) ?_ rfl ⟨_, _, rfl, (RowNew_setCell (RowNew_setCell F1.out (p := ⟨w.heap.size + 1 + 1, 0, none⟩) (by show w.heap.size + 1 + 1 < w.heap.size + 3; omega) _) (p := ⟨w.heap.size + 1 + 1, 1, none⟩) (by show w.heap.size + 1 + 1 < w.heap.size + 3; omega) _).1, (RowNew_setCell (RowNew_setCell F2.out (p := ⟨w.heap.size + 1 + 1, 0, none⟩) (by show w.heap.size + 1 + 1 < w.heap.size + 3; omega) _) (p := ⟨w.heap.size + 1 + 1, 1, none⟩) (by show w.heap.size + 1 + 1 < w.heap.size + 3; omega) _).1, ((T6.out.bel.setCell (by show _ ≤ w.heap.size + 1 + 1; omega) _).setCell (by show _ ≤ w.heap.size + 1 + 1; omega) _).drew⟩; simp [results, Try.results12, go_sem, *])

set_option maxHeartbeats 16000000 in
set_option maxRecDepth 100000 in
theorem ref_Asked_jtwice (vl vr : Value) (L : List Lf) (R : List Rq) (id bk wt an now drain : Int) (i : Nat) (w : World) (hl : RowAt w 6 vl (L.map Lf.cells)) (hr : RowAt w 5 vr (R.map Rq.cells)) (h : BkMay L R) (hn : AkMay ⟨id, 1, bk, wt, an⟩ now drain) (he : idxOf (rqIs id) R = -1) (hf : R.length ≠ 100) (hrg : (0 ≤ bk ∧ bk ≤ 11) ∧ (1 ≤ wt ∧ wt ≤ 8)) (hi : i < L.length) (hix : idxOf (lfIs bk) L = i) (hs : (L.getD i Lf.zero).state ≠ 4) :
    Calls Try.prog 12 #[.agg #[vl, vr], .agg #[.int .i64 id, .int .i64 1, .int .i64 bk, .int .i64 wt, .int .i64 an], .int .i64 now, .int .i64 drain] w (AkPost w L (R ++ [⟨id, 1, bk, wt, 7⟩]) 7 true 0) := by
  have HE := Lib.hid he
  have HNO := Lib.hid (idxOf_no he)
  have HF := Lib.hid hf
  obtain ⟨i1, ki, ki0, ki1, ki2⟩ := info_parts info_rq
  have HI := Lib.hid hix
  obtain ⟨s1', hs1⟩ : ∃ s1', (L.getD i Lf.zero).state = s1' := ⟨_, rfl⟩
  have HS : Hid (L.getD i Lf.zero = ⟨(L.getD i Lf.zero).backend, s1', (L.getD i Lf.zero).weight, (L.getD i Lf.zero).since, (L.getD i Lf.zero).until_, (L.getD i Lf.zero).request⟩) := by show _ = _; rw [← hs1]
  have hs4 : s1' ≠ 4 := by rw [← hs1]; exact hs
  clear he hf hix hs hs1
  obtain ⟨⟨k1, k2⟩, k3, k4⟩ := hrg
  have HL := Lib.hid hl
  have HR := Lib.hid hr
  have H : Hid (BkCode L R 0) := Or.inl ⟨h, rfl⟩
  have HM := Lib.hid h
  have h12 := h.1
  have h100 := h.2.1
  have n1 : L.length * 48 ≤ 140737488351232 := by omega
  have n2 : R.length * 40 ≤ 140737488351232 := by omega
  have HQ : Hid (RqQ ⟨id, 1, bk, wt, an⟩ true) := Or.inl ⟨hn.1, rfl⟩
  obtain ⟨_, ⟨r0, r1⟩, r2, r3⟩ := hn
  obtain ⟨a, c, rfl, _, _, _, pl⟩ := RowAt_fn Lf.zero hl
  obtain ⟨a', c', rfl, _, _, _, pr⟩ := RowAt_fn Rq.zero hr
  have PL := Lib.hid pl
  have PR := Lib.hid pr
  clear hl hr h pl pr
  go_enter Try.func12, Try.ntmps12
  go_wp2_with fail
  refine (ref_BookFault _ _ L R 0 _ (RowAt_alloc (RowAt_alloc (RowAt_alloc HL.out _) _) _) (RowAt_alloc (RowAt_alloc (RowAt_alloc HR.out _) _) _) H.out).mono ?_
  rintro e w1 ⟨rfl, hb1⟩
  have B1 := Lib.hid ((((((Below.refl w.heap.size w).alloc (Nat.le_refl _) (.cells #[.slice a L.length c, .slice a' R.length c'] 25)).alloc (by simp) (.cells #[.int .i64 id, .int .i64 1, .int .i64 bk, .int .i64 wt, .int .i64 an] 31)).alloc (by first | omega | (simp; done) | (simp; omega)) (.cells #[.slice none 0 0, .slice none 0 0] 25))).trans (hb1.mono (by first | omega | (simp; done) | (simp; omega))))
  have hN := Lib.hid (blk_below hb1 (heap_at (w := World.alloc (World.alloc w _) _) (k := w.heap.size + 1 + 1) (.cells #[.slice none 0 0, .slice none 0 0] 25) (by simp)) (by simp)); have hR := Lib.hid (blk_below hb1 ((Below.heap_alloc (w := World.alloc (World.alloc w _) _) (.cells #[.slice none 0 0, .slice none 0 0] 25) (w.heap.size + 1) (by simp)).trans (heap_at (w := World.alloc w _) (k := w.heap.size + 1) (.cells #[.int .i64 id, .int .i64 1, .int .i64 bk, .int .i64 wt, .int .i64 an] 31) (by simp))) (by first | omega | (simp; done) | (simp; omega)))
  have hBk : Hid (w1.heap[w.heap.size]? = some (.cells #[.slice a L.length c, .slice a' R.length c'] 25 (0, 0))) := blk_below hb1 ((Below.heap_alloc (w := World.alloc (World.alloc w _) _) (.cells #[.slice none 0 0, .slice none 0 0] 25) w.heap.size (by first | omega | (simp; done) | (simp; omega))).trans ((Below.heap_alloc (w := World.alloc w _) (.cells #[.int .i64 id, .int .i64 1, .int .i64 bk, .int .i64 wt, .int .i64 an] 31) w.heap.size (by first | omega | (simp; done) | (simp; omega))).trans (heap_at (w := w) (k := w.heap.size) (.cells #[.slice a L.length c, .slice a' R.length c'] 25) rfl))) (by first | omega | (simp; done) | (simp; omega))
  have s1 := hb1.size
  simp at s1
  have d0 := blk_cell hR.out 0
  have d1 := blk_cell hR.out 1
  have d2 := blk_cell hR.out 2
  have d3 := blk_cell hR.out 3
  have d4 := blk_cell hR.out 4
  simp at d0 d1 d2 d3 d4
  clear hb1
  go_wp2_with fail
  refine (ref_RequestMay _ _ _ _ _ _ _ HQ.out).mono ?_
  rintro e w2 ⟨rfl, hb2⟩
  have B2 := Lib.hid (B1.out.trans (hb2.mono B1.out.size))
  have hN2 := Lib.hid (blk_below hb2 hN.out (lt_of_block hN.out))
  have hR2 := Lib.hid (blk_below hb2 hR.out (lt_of_block hR.out))
  have hBk2 := Lib.hid (blk_below hb2 hBk.out (lt_of_block hBk.out))
  have s2 := hb2.size
  have b0 := blk_cell hBk2.out 0
  have b1 := blk_cell hBk2.out 1
  have lb := lt_of_block hBk2.out
  simp at b0 b1
  clear hb2 d0 d1 d2 d3 d4 hN hR hBk B1
  go_wp2_with (go_at_call 31; first | (refine (In_yes _ _ _ _ (by omega) (by omega)).mono ?_; rintro e w' ⟨rfl, rfl⟩) | (refine (In_no _ _ _ _ (by omega)).mono ?_; rintro e w' ⟨rfl, rfl⟩))
  --M copy
  refine (ref_BookCopyO _ _ L R _ (RowAt_below HL.out B2.out) (RowAt_below HR.out B2.out) n1 n2).mono ?_
  rintro e w3 ⟨v1, v2, rfl, o1, o2, dis, hb3⟩
  obtain ⟨a1, c1, rfl, _⟩ := owns_shape o1
  obtain ⟨a2, c2, rfl, _⟩ := owns_shape o2
  have s3 := hb3.size
  have K1 : BkG 25 (w.heap.size + 3) (w3.alloc (.cells #[.slice a1 L.length c1, .slice a2 R.length c2] 25)) w3.heap.size (.slice a1 L.length c1) (.slice a2 R.length c2) L R := ⟨by omega, heap_at _ rfl, own_rebase (own_keep o1 ((Below.refl _ _).alloc (Nat.le_refl _) _)) (by omega), own_rebase (own_keep o2 ((Below.refl _ _).alloc (Nat.le_refl _) _)) (by omega), fun b hb => (o1.lt b hb).2, fun b hb => (o2.lt b hb).2, dis⟩
  have A0 : Hid (AqW w (w3.alloc (.cells #[.slice a1 L.length c1, .slice a2 R.length c2] 25)) w3.heap.size (.slice a L.length c) (.slice a' R.length c') (.slice a1 L.length c1) (.slice a2 R.length c2) L R id 1 bk wt an) := ⟨(B2.out.trans (hb3.mono (by omega))).alloc (by omega) _, (Below.heap_alloc _ _ _ (by omega)).trans (blk_below hb3 hBk2.out (by omega)), (Below.heap_alloc _ _ _ (by omega)).trans (blk_below hb3 hR2.out (by omega)), (Below.heap_alloc _ _ _ (by omega)).trans (blk_below hb3 hN2.out (by omega)), K1⟩
  clear K1 o1 o2 dis hb3 b0 b1 lb hN2 hR2 hBk2 B2
  go_wp2_with fail
  obtain ⟨p, hpp⟩ : ∃ p, p = w3.heap.size := ⟨_, rfl⟩
  rw [← hpp] at A0 ⊢
  clear hpp s1 s2 s3
  --M loop
  go_loopw [14] (fun i wr => ∃ k : Nat, k ≤ R.length ∧ i = .int .i64 k ∧ AqW w wr p (.slice a L.length c) (.slice a' R.length c') (.slice a1 L.length c1) (.slice a2 R.length c2) L R id 1 bk wt an ∧ (∀ x ∈ R.take k, rqIs id x = false)) (fun i _ => R.length - (intOf i).toNat)
  case atStart => exact ⟨0, Nat.zero_le _, rfl, A0.out, by simp⟩
  case round =>
    clear A0
    obtain ⟨k, hk, rfl, hA, hno⟩ := hrel
    have A := Lib.hid hA
    have hBp := hA.k.hB
    have b0 := blk_cell hA.hb 0
    have b1 := blk_cell hA.hb 1
    have e0 := blk_cell hA.hr 0
    have e1 := blk_cell hA.hr 1
    have e2 := blk_cell hA.hr 2
    have e3 := blk_cell hA.hr 3
    have e4 := blk_cell hA.hr 4
    have lp := hA.k.lt
    simp at b0 b1 e0 e1 e2 e3 e4
    rcases (show k < R.length ∨ R.length = k by omega) with hlt | heq
    · have hlt' : (k : Int) < (R.length : Int) := by omega
      obtain ⟨bb, bo, rfl, hbb, q⟩ := PR.out (by intro h; rw [h] at hlt; simp at hlt)
      obtain ⟨y, hx⟩ : ∃ x, x = R.getD k Rq.zero := ⟨_, rfl⟩
      have HX := Lib.hid hx
      have p0 : (0 : Int) ≤ (k : Int) := by omega
      have hold : ∀ j, j < 5 → wr.cell? ⟨bb, bo + k * 5 + j, none⟩ = (Rq.cells y)[j]? := fun j hj => by
        rw [hA.bel.cell (p := ⟨bb, bo + k * 5 + j, none⟩) hbb, HX.out]; exact q k j hlt hj
      obtain ⟨y0, y1, y2, y3, y4⟩ := y
      have z0 := hold 0 (by omega)
      have z4 := hold 4 (by omega)
      simp only [Rq.cells, List.getElem?_cons_zero, List.getElem?_cons_succ, Nat.add_zero] at z0 z4
      clear hold hx q hA
      have e5 : w.heap.size ≠ bb := by omega
      by_cases hyn : y0 = id
      rotate_left
      · have hy : (y0 == id) = false := by rw [beq_eq_false_iff_ne]; exact hyn
        have hno' := Lib.hid (idx_step (p := rqIs id) hlt HX.out (show rqIs id _ = false from hy) hno)
        clear hno hyn
        --M miss
        go_wp2_with fail
        go_quiet (fail)
        have AZ := Lib.hid (A.out.below (Below_drewN (n := nq) (Below.refl _ _)))
        clear b0 b1 e0 e1 e2 e3 e4 z0 z4 A lp
        generalize wr.drewN nq = wy at AZ ⊢
        go_wp2
        go_roundw
        case rel => exact ⟨k + 1, by omega, by go_num, AZ.out, hno'.out⟩
        case measure => simp [intOf]; omega
      · exfalso
        have := HNO.out _ (show R.getD k Rq.zero ∈ R by simp [List.getD, hlt])
        rw [← HX.out] at this
        simp [rqIs, hyn] at this
    · have hge : ¬ (k : Int) < (R.length : Int) := by omega
      have hfe : ((R.length : Int) == 100) = false := by rw [beq_eq_false_iff_ne]; have := HF.out; omega
      have p0' := blk_cell hA.k.hh 0
      have p1' := blk_cell hA.k.hh 1
      simp at p0' p1'
      have ne1 : w.heap.size + 1 + 1 ≠ p := by omega
      have ne2 : w.heap.size + 1 ≠ p := by omega
      have eb0 := b0
      clear hA hno heq
      --M at
      go_wp2_with fail
      refine (ref_lifeAt _ _ L bk _ (RowAt_below HL.out A.out.bel) h12).mono ?_
      rintro e w4 ⟨rfl, hb4⟩
      have A4 := Lib.hid (A.out.below hb4)
      clear hb4 b0 b1 e0 e1 e2 e3 e4 p0' p1' lp eb0 A
      have b0 := blk_cell A4.out.hb 0
      have b1 := blk_cell A4.out.hb 1
      have e0 := blk_cell A4.out.hr 0
      have e1 := blk_cell A4.out.hr 1
      have e2 := blk_cell A4.out.hr 2
      have e3 := blk_cell A4.out.hr 3
      have e4 := blk_cell A4.out.hr 4
      have f3 := blk_free A4.out.hr 3
      have f4 := blk_free A4.out.hr 4
      have p0' := blk_cell A4.out.k.hh 0
      have p1' := blk_cell A4.out.k.hh 1
      have pf0 := blk_free A4.out.k.hh 0
      have pf1 := blk_free A4.out.k.hh 1
      have lp := A4.out.k.lt
      have lr4 := lt_of_block A4.out.hr
      simp at b0 b1 e0 e1 e2 e3 e4 p0' p1'
      rw [HI.out]
      have hi' : (i : Int) < (L.length : Int) := by omega
      have i0' : (0 : Int) ≤ (i : Int) := by omega
      have i0n : ¬ (i : Int) < 0 := by omega
      have i0d : decide ((i : Int) < 0) = false := decide_eq_false i0n
      have i0g : decide ((i : Int) ≥ 0) = true := decide_eq_true i0'
      have i0h : decide ((0 : Int) ≤ (i : Int)) = true := decide_eq_true i0'
      obtain ⟨la, lo, rfl, hla, ql⟩ := PL.out (by intro h; rw [h] at hi; simp at hi)
      have zl1 : w4.cell? ⟨la, lo + i * 6 + 1, none⟩ = some (.int .i64 s1') := by
        rw [A4.out.bel.cell (p := ⟨la, lo + i * 6 + 1, none⟩) hla, ql i 1 hi (by omega), HS.out]; rfl
      have neL : w.heap.size + 1 ≠ la := by omega
      have lla := cell_lt zl1
      clear ql
      have hne4 : (s1' != 4) = true := by rw [bne_iff_ne]; exact hs4
      have T := Lib.hid (((A4.out.box (j := 4) (u := .int .i64 0) (by rfl)).box (j := 4) (u := .int .i64 7) (by rfl)).t)
      have HOW : Hid ((((w4.setCell ⟨w.heap.size + 1, 4, none⟩ (.int .i64 0)).setCell ⟨w.heap.size + 1, 4, none⟩ (.int .i64 7)).alloc (.cells #[.int .i64 id, .int .i64 1, .int .i64 bk, .int .i64 wt, .int .i64 7] 31)).ownsRow (w.heap.size + 3) 31 5 (.slice a2 R.length c2) R.length (R.map Rq.cells).flatten) := own_keep T.out.o2 ((Below.refl _ _).alloc (Nat.le_refl _) _)
      --M jtwice
      go_wp2_with first | (go_at_call 31; first | (refine (In_yes _ _ _ _ (by omega) (by omega)).mono ?_; rintro e w' ⟨rfl, rfl⟩) | (refine (In_no _ _ _ _ (by omega)).mono ?_; rintro e w' ⟨rfl, rfl⟩)) | (at_builtin; go_loud (refine wpList_append_own _ rfl _ _ 23 rfl (w.heap.size + 3) 31 i1 (.agg #[.int .i64 0, .int .i64 0, .int .i64 0, .int .i64 0, .int .i64 0]) 5 40 Try.underlying23 ki ki0 ki1 ki2 rfl (by decide) _ R.length _ rfl HOW.out ⟨w4.heap.size, 0, none⟩ 1 1 (Rq.cells ⟨id, 1, bk, wt, 7⟩) rfl rfl (news_lit (w := ((w4.setCell ⟨w.heap.size + 1, 4, none⟩ (.int .i64 0)).setCell ⟨w.heap.size + 1, 4, none⟩ (.int .i64 7))) (by simp) _ 31) ?c1 ?c2 ?c3 ?c4 ?_))
      case c1 => (intro u hu; simp [Rq.cells] at hu; rcases hu with rfl | rfl | rfl | rfl | rfl <;> rfl)
      case c2 => unfold maxLen; omega
      case c3 => omega
      case c4 => (simp; omega)
      intro v' w6x hown' hgrow _
      obtain ⟨x3, y3, rfl, _⟩ := owns_shape hown'
      obtain ⟨h6, hT6⟩ := T.out.grown hown' hgrow
      have c6 := blk_cell h6 1
      have f6 := blk_free h6 1
      have l6 := lt_of_block h6
      simp at c6
      have T6 := Lib.hid hT6
      clear hown' hgrow h6 hT6 T HOW
      go_wp2_with fail
      generalize w6x.setCell ⟨p, 1, none⟩ (.slice x3 (R.length + 1) y3) = wz at T6 ⊢
      clear c6 f6 l6
      have z0 := blk_cell T6.out.hh 0
      have z1 := blk_cell T6.out.hh 1
      have u0 := blk_cell T6.out.hr 0
      have u1 := blk_cell T6.out.hr 1
      have u2 := blk_cell T6.out.hr 2
      have u3 := blk_cell T6.out.hr 3
      have u4 := blk_cell T6.out.hr 4
      have lpz := lt_of_block T6.out.hh
      simp at z0 z1 u0 u1 u2 u3 u4
      have n0 := blk_cell T6.out.hn 0
      have n1' := blk_cell T6.out.hn 1
      have g0 := blk_free T6.out.hn 0
      have g1 := blk_free T6.out.hn 1
      have lnn := lt_of_block T6.out.hn
      simp at n0 n1'
      have F1 : Hid (RowNew (w.heap.size + 3) wz 6 (.slice a1 L.length c1) (L.map Lf.cells)) := RowNew_of_owns T6.out.o1 (by simp) (lenb_Lf _)
      have F2 : Hid (RowNew (w.heap.size + 3) wz 5 (.slice x3 (R.length + 1) y3) ((R ++ [Rq.mk id 1 bk wt 7]).map Rq.cells)) := by have h := T6.out.o2; exact RowNew_of_owns h (by simp) (lenb_Rq _)
      go_region
      all_goals go_wp2
      all_goals (refine bodyPost_ret (v := .tuple #[.agg #[(.slice a1 L.length c1), (.slice x3 (R.length + 1) y3)], .int .i64 7, .bool true, .int .i64 0]) ?_ rfl ⟨_, _, rfl, (RowNew_setCell (RowNew_setCell F1.out (p := ⟨w.heap.size + 1 + 1, 0, none⟩) (by show w.heap.size + 1 + 1 < w.heap.size + 3; omega) _) (p := ⟨w.heap.size + 1 + 1, 1, none⟩) (by show w.heap.size + 1 + 1 < w.heap.size + 3; omega) _).1, (RowNew_setCell (RowNew_setCell F2.out (p := ⟨w.heap.size + 1 + 1, 0, none⟩) (by show w.heap.size + 1 + 1 < w.heap.size + 3; omega) _) (p := ⟨w.heap.size + 1 + 1, 1, none⟩) (by show w.heap.size + 1 + 1 < w.heap.size + 3; omega) _).1, ((T6.out.bel.setCell (by show _ ≤ w.heap.size + 1 + 1; omega) _).setCell (by show _ ≤ w.heap.size + 1 + 1; omega) _).drew⟩; simp [results, Try.results12, go_sem, *])
end Go.Proofs.Ythngedmmeiiklaa
