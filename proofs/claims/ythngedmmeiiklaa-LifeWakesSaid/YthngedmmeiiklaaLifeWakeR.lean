/- usherref.Woken: its contract. -/
import Derived.Test.YthngedmmeiiklaaLifeWake
namespace Go.Proofs.Ythngedmmeiiklaa
open Go.RowKit

set_option maxHeartbeats 8000000 in
set_option maxRecDepth 100000 in
theorem ref_Wake (vl vr : Value) (L : List Lf) (R : List Rq) (now : Int) (L' : List Lf) (R' : List Rq) (Y : List Int) (code : Int) (w : World) (hl : RowAt w 6 vl (L.map Lf.cells)) (hr : RowAt w 5 vr (R.map Rq.cells)) (h : WkAns L R now L' R' Y code) :
    Calls Try.prog 15 #[.agg #[vl, vr], .int .i64 now] w (WkPost w L' R' Y code) := by
  obtain ⟨i0, ji, ji0, ji1, ji2⟩ := info_parts info_wkint
  have HL := Lib.hid hl
  have HR := Lib.hid hr
  obtain ⟨a, c, rfl, _⟩ := RowAt_shape hl
  obtain ⟨a', c', rfl, _⟩ := RowAt_shape hr
  clear hl hr
  rcases h with ⟨hm, rfl, rfl, rfl, rfl⟩ | ⟨hm, hnow, rfl, rfl, rfl, rfl⟩ | ⟨hm, t1, t2, rfl, rfl, rfl, rfl⟩
  · have H : Hid (BkCode L R 6) := Or.inr ⟨hm, rfl⟩
    clear hm
    go_enter Try.func15, Try.ntmps15
    go_wp2_with fail
    refine (ref_BookFault _ _ L R 6 _ (RowAt_alloc (RowAt_alloc HL.out _) _) (RowAt_alloc (RowAt_alloc HR.out _) _) H.out).mono ?_
    rintro e w1 ⟨rfl, hb1⟩
    obtain ⟨hc1, hf1⟩ := bcell hb1; have hz1 := blt hb1; have hy1 := hb1.size; simp at hy1; have m0 : w.heap.size < w1.heap.size := (by omega); have m1 : w.heap.size + 1 < w1.heap.size := (by omega); have hN1 : w1.heap[w.heap.size + 1]? = some (.cells #[.slice none 0 0, .slice none 0 0] 25 (0, 0)) := blk_below hb1 (heap_at (w := World.alloc _ _) _ (by simp)) (by simp)
    go_wp2
    refine bodyPost_ret (v := .tuple #[.agg #[.slice none 0 0, .slice none 0 0], .slice none 0 0, .int .i64 6]) ?_ rfl ⟨_, _, _, rfl, RowAt_nil _ _, RowAt_nil _ _, RowAt_nil _ _, (by repeat (first | (with_reducible exact Below.refl _ _) | (with_reducible assumption) | (with_reducible refine Below.drew ?_) | (with_reducible refine Below_drewN ?_) | (with_reducible refine Below.alloc ?_ (by first | omega | (simp; done) | (simp; omega)) _) | (with_reducible refine Below.setCell ?_ (by first | omega | (simp; done) | (simp; omega)) _) | (with_reducible refine Below.trans ?_ (Below.mono (by assumption) (by first | omega | (simp; done) | (simp; omega))))))⟩
    simp [results, Try.results15, go_sem, *]
  · have H : Hid (BkCode L R 0) := Or.inl ⟨hm, rfl⟩
    clear hm
    rcases hnow with t1 | ⟨t1, t2⟩
    all_goals
      go_enter Try.func15, Try.ntmps15
      go_wp2_with fail
      refine (ref_BookFault _ _ L R 0 _ (RowAt_alloc (RowAt_alloc HL.out _) _) (RowAt_alloc (RowAt_alloc HR.out _) _) H.out).mono ?_
      rintro e w1 ⟨rfl, hb1⟩
      obtain ⟨hc1, hf1⟩ := bcell hb1; have hz1 := blt hb1; have hy1 := hb1.size; simp at hy1; have m0 : w.heap.size < w1.heap.size := (by omega); have m1 : w.heap.size + 1 < w1.heap.size := (by omega); have hN1 : w1.heap[w.heap.size + 1]? = some (.cells #[.slice none 0 0, .slice none 0 0] 25 (0, 0)) := blk_below hb1 (heap_at (w := World.alloc _ _) _ (by simp)) (by simp)
      go_wp2_with (go_at_call 31; first | (refine (In_yes _ _ _ _ (by omega) (by omega)).mono ?_; rintro e w' ⟨rfl, rfl⟩) | (refine (In_no _ _ _ _ (by omega)).mono ?_; rintro e w' ⟨rfl, rfl⟩))
      refine bodyPost_ret (v := .tuple #[.agg #[.slice none 0 0, .slice none 0 0], .slice none 0 0, .int .i64 2]) ?_ rfl ⟨_, _, _, rfl, RowAt_nil _ _, RowAt_nil _ _, RowAt_nil _ _, (by repeat (first | (with_reducible exact Below.refl _ _) | (with_reducible assumption) | (with_reducible refine Below.drew ?_) | (with_reducible refine Below_drewN ?_) | (with_reducible refine Below.alloc ?_ (by first | omega | (simp; done) | (simp; omega)) _) | (with_reducible refine Below.setCell ?_ (by first | omega | (simp; done) | (simp; omega)) _) | (with_reducible refine Below.trans ?_ (Below.mono (by assumption) (by first | omega | (simp; done) | (simp; omega))))))⟩
      simp [results, Try.results15, go_sem, *]
  · have H : Hid (BkCode L R 0) := Or.inl ⟨hm, rfl⟩
    have h12 := hm.1
    have n1 : L.length * 48 ≤ 140737488351232 := by omega
    have n2 : R.length * 40 ≤ 140737488351232 := by have := hm.2.1; omega
    clear hm
    go_enter Try.func15, Try.ntmps15
    go_wp2_with fail
    refine (ref_BookFault _ _ L R 0 _ (RowAt_alloc (RowAt_alloc HL.out _) _) (RowAt_alloc (RowAt_alloc HR.out _) _) H.out).mono ?_
    rintro e w1 ⟨rfl, hb1⟩
    have B1 := Lib.hid ((((Below.refl w.heap.size w).alloc (Nat.le_refl _) (.cells #[.slice a L.length c, .slice a' R.length c'] 25)).alloc (by simp) (.cells #[.slice none 0 0, .slice none 0 0] 25)).trans (hb1.mono (by simp; omega)))
    obtain ⟨hc1, hf1⟩ := bcell hb1; have hz1 := blt hb1; have hy1 := hb1.size; simp at hy1; have m0 : w.heap.size < w1.heap.size := (by omega); have m1 : w.heap.size + 1 < w1.heap.size := (by omega); have hN1 : w1.heap[w.heap.size + 1]? = some (.cells #[.slice none 0 0, .slice none 0 0] 25 (0, 0)) := blk_below hb1 (heap_at (w := World.alloc _ _) _ (by simp)) (by simp)
    go_wp2_with (go_at_call 31; first | (refine (In_yes _ _ _ _ (by omega) (by omega)).mono ?_; rintro e w' ⟨rfl, rfl⟩) | (refine (In_no _ _ _ _ (by omega)).mono ?_; rintro e w' ⟨rfl, rfl⟩))
    refine (ref_BookCopyO _ _ L R _ (RowAt_below HL.out B1.out) (RowAt_below HR.out B1.out) n1 n2).mono ?_
    rintro e w2 ⟨v1, v2, rfl, o1, o2, dis, hb2⟩
    obtain ⟨a1, c1, rfl, _⟩ := owns_shape o1
    obtain ⟨a2, c2, rfl, _⟩ := owns_shape o2
    have s2 := hb2.size
    have K1 : BkG 25 (w.heap.size + 1 + 1) (w2.alloc (.cells #[.slice a1 L.length c1, .slice a2 R.length c2] 25)) w2.heap.size (.slice a1 L.length c1) (.slice a2 R.length c2) L R := ⟨by omega, heap_at _ rfl, own_rebase (own_keep o1 ((Below.refl _ _).alloc (Nat.le_refl _) _)) (by omega), own_rebase (own_keep o2 ((Below.refl _ _).alloc (Nat.le_refl _) _)) (by omega), fun b hb => (o1.lt b hb).2, fun b hb => (o2.lt b hb).2, dis⟩
    obtain ⟨B2, hB2⟩ : ∃ B2, B2 = w2.heap.size + 1 := ⟨_, rfl⟩
    have HR0 : Hid (WkRel w (w2.alloc (.cells #[.slice a1 L.length c1, .slice a2 R.length c2] 25)) 25 (w.heap.size + 1 + 1) B2 w2.heap.size (.slice a1 L.length c1) (.slice a2 R.length c2) L R now 0 (.slice none 0 0)) := ⟨⟨Nat.zero_le _, (B1.out.trans (hb2.mono (by omega))).alloc (by omega) _, (Below.heap_alloc _ _ _ (by omega)).trans (blk_below hb2 hN1 (by omega)), by rw [wkM_none]; exact K1, by omega, by omega, by simp; omega⟩, none, 0, rfl, World.ownsRow_nil _ _ _ _⟩
    clear hN1 K1 hb2 hb1 hc1 hf1 hz1 hy1 o1 o2 dis
    go_wp2_with fail
    obtain ⟨p, hpp⟩ : ∃ p, p = w2.heap.size := ⟨_, rfl⟩
    rw [← hpp] at HR0 ⊢
    have hpB : p < B2 := by omega
    clear hpp hB2 s2
    go_loopw [9, 10] (fun l i wr => ∃ k : Nat, i = .int .i64 k ∧ WkRel w wr 25 (w.heap.size + 1 + 1) B2 p (.slice a1 L.length c1) (.slice a2 R.length c2) L R now k l) (fun _ i _ => L.length - (intOf i).toNat)
    case atStart => exact ⟨0, rfl, HR0.out⟩
    case round =>
      clear HR0
      obtain ⟨k, rfl, hrel⟩ := hrel
      have HR := Lib.hid hrel
      obtain ⟨⟨hk, hb, hN, hK, hp, hB0, hB2⟩, a, cap, rfl, hown⟩ := hrel
      have HB := Lib.hid hb
      have HK := Lib.hid hK
      have HO := Lib.hid hown
      have HN := Lib.hid hN
      have c0 := blk_cell hK.hh 0
      have c1' := blk_cell hK.hh 1
      simp at c0 c1'
      have hlY := wkY_len (L := L) (k := k)
      rcases (show k < L.length ∨ L.length = k by omega) with hlt | heq
      · have hlt' : (k : Int) < (L.length : Int) := by omega
        have p0 : (0 : Int) ≤ (k : Int) := by omega
        obtain ⟨g, cp, hv, hg1, hg2⟩ := hK.addr (i := k) (by rw [wkM_len]; exact hlt)
        rw [wkM_len] at hv
        simp only [Value.slice.injEq] at hv
        obtain ⟨rfl, _, rfl⟩ := hv
        have q : ∀ j, j < 6 → wr.cell? ⟨g, k * 6 + j, none⟩ = ((L.getD k Lf.zero).cells)[j]? ∧ wr.frozen? ⟨g, k * 6 + j, none⟩ = false := fun j hj => by
          have := hK.cell (i := k) (by rw [wkM_len]; exact hlt) hj
          rw [wkM_get hlt] at this; exact this
        obtain ⟨s, hs⟩ : ∃ s, s = L.getD k Lf.zero := ⟨_, rfl⟩
        rw [← hs] at q
        have HS := Lib.hid hs
        clear hs hb hN hK hown
        obtain ⟨bk, st, wt, sn, un, rq⟩ := s
        obtain ⟨q0, _⟩ := q 0 (by omega)
        obtain ⟨q1, f1⟩ := q 1 (by omega)
        obtain ⟨q3, f3⟩ := q 3 (by omega)
        simp [Lf.cells] at q0 q1 q3
        clear q
        by_cases h1 : st = 1
        · subst h1
          have hs1 : Hid ((L.getD k Lf.zero).state = 1) := by rw [← HS.out]; rfl
          have hbk : Hid ((L.getD k Lf.zero).backend = bk) := by show _ = _; rw [← HS.out]
          have lb := cell_lt q0
          have hne : Hid ((Value.slice a (wkY L k).length cap).ownBlock ≠ some g) := fun e => by have := (HO.out.lt g e).1; omega
          have O2 := Lib.hid (ownsRow_setCell_other (ownsRow_setCell_other HO.out (a := ⟨g, k * 6 + 1, none⟩) hne.out (.int .i64 2)) (a := ⟨g, k * 6 + 3, none⟩) hne.out (.int .i64 now))
          have n1 : p ≠ g := by omega
          have n2 : g ≠ p := by omega
          go_wp2_with (at_builtin; go_loud (refine wpList_append_own _ rfl _ _ 36 rfl B2 3 i0 (.int .i64 0) 1 8 Try.underlying36 ji ji0 ji1 ji2 rfl (by decide) _ (wkY L k).length _ rfl (O2.out.alloc _) ⟨wr.heap.size, 0, none⟩ 1 1 [.int .i64 bk] rfl rfl (news_lit (by simp) [.int .i64 bk] 3) ?c1 ?c2 ?c3 ?c4 ?_))
          case c1 => first | rfl | (intro u hu; simp at hu; subst hu; rfl)
          case c2 => unfold maxLen; omega
          case c3 => omega
          case c4 => first | omega | (simp; omega)
          intro v' w1 hown' hgrow _
          obtain ⟨a', cap', rfl, _, _⟩ := owns_shape hown'
          have S := Lib.hid (WkRel_hit HB.out HN.out HK.out hp hB0 hB2 HO.out hlt hs1.out hgrow (by rw [hbk.out]; exact hown'))
          clear hown' hgrow
          go_wp2
          go_roundw
          case rel => exact ⟨k + 1, by go_num, S.out⟩
          case measure => simp [intOf]; omega
        · have e1 : (st == 1) = false := by simpa using h1
          have S := Lib.hid (WkRel_skip HR.out hlt (by rw [← HS.out]; exact h1))
          clear h1
          go_wp2
          go_roundw
          case rel => exact ⟨k + 1, by go_num, S.out⟩
          case measure => simp [intOf]; omega
      · have hge : ¬ (k : Int) < (L.length : Int) := by omega
        have d0 := blk_cell hN 0
        have d1 := blk_cell hN 1
        have g0 := blk_free hN 0
        have g1 := blk_free hN 1
        simp at d0 d1
        have lN := lt_of_block hN
        have hpB := hK.hB
        have X1 : Hid (RowNew (w.heap.size + 1 + 1) wr 6 (.slice a1 L.length c1) ((L.map (Lf.wk now)).map Lf.cells)) := by have := HK.out.r1; rw [← heq, wkM_all] at this; exact this
        have X2 := Lib.hid HK.out.r2
        have X3 : Hid (RowNew B2 wr 1 (.slice a (wkY L k).length cap) ((wkY L L.length).map fun x => [Value.int .i64 x])) := by
          rw [heq]
          exact RowNew_of_owns (e := 3) (n := (wkY L k).length) (by rw [wk_flat]; exact HO.out) (by simp) (wk_one _)
        clear hb hN hK hown heq
        go_wp2
        refine bodyPost_ret (v := .tuple #[.agg #[.slice a1 L.length c1, .slice a2 R.length c2], .slice a (wkY L k).length cap, .int .i64 0]) ?_ rfl ⟨_, _, _, rfl, (RowNew_setCell (RowNew_setCell X1.out (by first | omega | (simp; done) | (simp; omega)) _) (by first | omega | (simp; done) | (simp; omega)) _).1, (RowNew_setCell (RowNew_setCell X2.out (by first | omega | (simp; done) | (simp; omega)) _) (by first | omega | (simp; done) | (simp; omega)) _).1, (RowNew_setCell (RowNew_setCell X3.out (by first | omega | (simp; done) | (simp; omega)) _) (by first | omega | (simp; done) | (simp; omega)) _).1, (HB.out.setCell (by first | omega | (simp; done) | (simp; omega)) _).setCell (by first | omega | (simp; done) | (simp; omega)) _⟩
        simp [results, Try.results15, go_sem, *]
end Go.Proofs.Ythngedmmeiiklaa
