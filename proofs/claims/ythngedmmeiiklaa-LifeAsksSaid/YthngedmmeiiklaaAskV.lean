/- usherref.Asked: laws; the roads on which the request is there already, or the book is full. -/
import Derived.Test.YthngedmmeiiklaaAskU
import Derived.BigQuiet
import Derived.BigRegion
namespace Go.Proofs.Ythngedmmeiiklaa
open Go.RowKit

theorem idxOf_no {α : Type} {p : α → Bool} {L : List α} (h : idxOf p L = -1) : ∀ x ∈ L, p x = false := by
  intro x hx
  rcases idxOf_cases p L x with ⟨_, h2⟩ | ⟨i, _, h2, _⟩
  · exact h2 x hx
  · rw [h] at h2; omega
theorem idxOf_at {α : Type} {p : α → Bool} {L : List α} {i : Nat} (d : α) (h : idxOf p L = (i : Int)) : i < L.length ∧ p (L.getD i d) = true ∧ ∀ x ∈ L.take i, p x = false := by
  rcases idxOf_cases p L d with ⟨h2, _⟩ | ⟨j, h1, h2, h3, h4⟩
  · rw [h] at h2; omega
  · rw [h] at h2
    have e : i = j := by omega
    subst e
    exact ⟨h1, h3, h4⟩
theorem AqW.joined {w wr w6 : World} {p : Nat} {vl vr v1 v2 v1' : Value} {L T : List Lf} {R : List Rq} {id kd bk wt an : Int} (h : AqW w wr p vl vr v1 v2 L R id kd bk wt an) (ho : w6.ownsRow wr.heap.size 44 6 v1' T.length (T.map Lf.cells).flatten) (hb : Below wr.heap.size wr w6) :
    AqT w ((w6.setCell ⟨p, 0, none⟩ v1').setCell ⟨p, 1, none⟩ v2) p v1' v2 T R id kd bk wt an := by
  have k := h.below hb
  have hp := k.k.hB
  have lp := h.k.lt
  have np : v2.ownBlock ≠ some p := fun e => by have := k.k.l2 p e; omega
  refine ⟨(k.bel.setCell (by show _ ≤ p; omega) _).setCell (by show _ ≤ p; omega) _, blk_set_ne (blk_set_ne k.hr (by omega)) (by omega), blk_set_ne (blk_set_ne k.hn (by omega)) (by omega), hp, two_setCell1 (two_setCell0 k.k.hh), ?_, ?_⟩
  · exact own_rebase (ownsRow_setCell_below (ownsRow_setCell_below ho (by show p < _; exact lp) _) (by show p < _; exact lp) _) (by omega)
  · exact ownsRow_setCell_other (ownsRow_setCell_other k.k.o2 np _) np _
theorem AqW.ended {w wr : World} {p g cap i : Nat} {vl vr v2 : Value} {L : List Lf} {R : List Rq} {id kd bk wt an : Int} (h : AqW w wr p vl vr (.slice (some ⟨g, 0, none⟩) L.length cap) v2 L R id kd bk wt an) (hi : i < L.length) (b e f : Int) :
    AqT w (((wr.setCell ⟨g, i * 6 + 1, none⟩ (.int .i64 b)).setCell ⟨g, i * 6 + 4, none⟩ (.int .i64 e)).setCell ⟨g, i * 6 + 5, none⟩ (.int .i64 f)) p (.slice (some ⟨g, 0, none⟩) L.length cap) v2 (L.set i { L.getD i Lf.zero with state := b, until_ := e, request := f }) R id kd bk wt an := by
  have k := h.k.three hi b e f
  have hg := (h.k.o1.lt g rfl).1
  have o1 := k.o1
  refine ⟨((h.bel.setCell (by show _ ≤ g; omega) _).setCell (by show _ ≤ g; omega) _).setCell (by show _ ≤ g; omega) _, blk_set_ne (blk_set_ne (blk_set_ne h.hr (by omega)) (by omega)) (by omega), blk_set_ne (blk_set_ne (blk_set_ne h.hn (by omega)) (by omega)) (by omega), k.hB, k.hh, o1, k.o2⟩
theorem AqT.grown {w W w6 : World} {p n c2 : Nat} {a2 : Option Addr} {v1 v' : Value} {L : List Lf} {R : List Rq} {id kd bk wt an : Int} {X : Obj} (h : AqT w W p v1 (.slice a2 n c2) L R id kd bk wt an)
    (ho : w6.ownsRow (w.heap.size + 3) 31 5 v' (R.length + 1) ((R.map Rq.cells).flatten ++ Rq.cells ⟨id, kd, bk, wt, an⟩)) (hg : (W.alloc X).grownBy w6 (Value.slice a2 n c2).ownBlock) :
    w6.heap[p]? = some (.cells #[v1, .slice a2 n c2] 25 (0, 0)) ∧ AqT w (w6.setCell ⟨p, 1, none⟩ v') p v1 v' L (R ++ [⟨id, kd, bk, wt, an⟩]) id kd bk wt an := by
  have nlt : ∀ b, (Value.slice a2 n c2).ownBlock = some b → w.heap.size + 3 ≤ b := fun b hb => (h.o2.lt b hb).1
  have lp := lt_of_block h.hh
  have hp := h.hp
  have npx := own_ne h.o2 h.hh (by decide)
  have far : ∀ b, b < W.heap.size → (Value.slice a2 n c2).ownBlock ≠ some b → w6.heap[b]? = W.heap[b]? := fun b hb hne => (hg.block b (by simp; omega) (Ne.symm hne)).trans (Below.heap_alloc _ _ _ hb)
  have near : ∀ b, b < w.heap.size + 3 → (Value.slice a2 n c2).ownBlock ≠ some b := fun b hb e => by have := nlt b e; omega
  have h6 := (far p lp npx).trans h.hh
  have n1 : v'.ownBlock ≠ some p := own_ne ho h6 (by decide)
  have o1 : w6.ownsRow (w.heap.size + 3) 44 6 v1 L.length (L.map Lf.cells).flatten := by
    obtain ⟨q1, q2 | ⟨gg, c2, cur, q3, q4, q5, q6⟩⟩ := h.o1
    · exact ⟨q1, .inl q2⟩
    · exact ⟨q1, .inr ⟨gg, c2, cur, q3, q4, (far gg (lt_of_block q5) (own_ne h.o2 q5 (by decide))).trans q5, q6⟩⟩
  refine ⟨h6, ⟨((h.bel.alloc (h.bel.size) _).grown hg (by have := h.bel.size; simp; omega) (fun b hb => by have := nlt b hb; omega)).setCell (by show _ ≤ p; omega) _, blk_set_ne ((far _ (by omega) (near _ (by omega))).trans h.hr) (by omega), blk_set_ne ((far _ (by omega) (near _ (by omega))).trans h.hn) (by omega), hp, two_setCell1 h6, ?_, ?_⟩⟩
  · exact ownsRow_setCell_other o1 (own_ne o1 h6 (by decide)) _
  · rw [List.length_append]
    refine ownsRow_setCell_other ?_ n1 _
    simpa using ho

set_option maxHeartbeats 16000000 in
set_option maxRecDepth 100000 in
theorem ref_Asked_old (vl vr : Value) (L : List Lf) (R : List Rq) (id kd bk wt an now drain : Int) (q : Nat) (w : World) (hl : RowAt w 6 vl (L.map Lf.cells)) (hr : RowAt w 5 vr (R.map Rq.cells)) (h : BkMay L R) (hn : AkMay ⟨id, kd, bk, wt, an⟩ now drain) (hq : q < R.length) (he : idxOf (rqIs id) R = q) :
    Calls Try.prog 12 #[.agg #[vl, vr], .agg #[.int .i64 id, .int .i64 kd, .int .i64 bk, .int .i64 wt, .int .i64 an], .int .i64 now, .int .i64 drain] w (AkPost w L R (R.getD q Rq.zero).answer false 0) := by
  have HE := Lib.hid he
  clear he
  have HL := Lib.hid hl
  have HR := Lib.hid hr
  have H : Hid (BkCode L R 0) := Or.inl ⟨h, rfl⟩
  have HM := Lib.hid h
  have h12 := h.1
  have h100 := h.2.1
  have n1 : L.length * 48 ≤ 140737488351232 := by omega
  have n2 : R.length * 40 ≤ 140737488351232 := by omega
  have HQ : Hid (RqQ ⟨id, kd, bk, wt, an⟩ true) := Or.inl ⟨hn.1, rfl⟩
  obtain ⟨_, ⟨r0, r1⟩, r2, r3⟩ := hn
  obtain ⟨a, c, rfl, _, _, _, pl⟩ := RowAt_fn Lf.zero hl
  obtain ⟨a', c', rfl, _, _, _, pr⟩ := RowAt_fn Rq.zero hr
  have PL := Lib.hid pl
  have PR := Lib.hid pr
  clear hl hr h pl pr
  go_enter Try.func12, Try.ntmps12
  go_wp2_with fail
  refine (ref_BookFault _ _ L R 0 _ (RowAt_alloc (RowAt_alloc (RowAt_alloc HL.out _) _) _) (RowAt_alloc (RowAt_alloc (RowAt_alloc HR.out _) _) _) H.out).mono ?_
  rintro e w1 ⟨rfl, hb1⟩
  have B1 := Lib.hid ((((((Below.refl w.heap.size w).alloc (Nat.le_refl _) (.cells #[.slice a L.length c, .slice a' R.length c'] 25)).alloc (by simp) (.cells #[.int .i64 id, .int .i64 kd, .int .i64 bk, .int .i64 wt, .int .i64 an] 31)).alloc (by first | omega | (simp; done) | (simp; omega)) (.cells #[.slice none 0 0, .slice none 0 0] 25))).trans (hb1.mono (by first | omega | (simp; done) | (simp; omega))))
  have hN := Lib.hid (blk_below hb1 (heap_at (w := World.alloc (World.alloc w _) _) (k := w.heap.size + 1 + 1) (.cells #[.slice none 0 0, .slice none 0 0] 25) (by simp)) (by simp)); have hR := Lib.hid (blk_below hb1 ((Below.heap_alloc (w := World.alloc (World.alloc w _) _) (.cells #[.slice none 0 0, .slice none 0 0] 25) (w.heap.size + 1) (by simp)).trans (heap_at (w := World.alloc w _) (k := w.heap.size + 1) (.cells #[.int .i64 id, .int .i64 kd, .int .i64 bk, .int .i64 wt, .int .i64 an] 31) (by simp))) (by first | omega | (simp; done) | (simp; omega)))
  have hBk : Hid (w1.heap[w.heap.size]? = some (.cells #[.slice a L.length c, .slice a' R.length c'] 25 (0, 0))) := blk_below hb1 ((Below.heap_alloc (w := World.alloc (World.alloc w _) _) (.cells #[.slice none 0 0, .slice none 0 0] 25) w.heap.size (by first | omega | (simp; done) | (simp; omega))).trans ((Below.heap_alloc (w := World.alloc w _) (.cells #[.int .i64 id, .int .i64 kd, .int .i64 bk, .int .i64 wt, .int .i64 an] 31) w.heap.size (by first | omega | (simp; done) | (simp; omega))).trans (heap_at (w := w) (k := w.heap.size) (.cells #[.slice a L.length c, .slice a' R.length c'] 25) rfl))) (by first | omega | (simp; done) | (simp; omega))
  have s1 := hb1.size
  simp at s1
  have d0 := blk_cell hR.out 0
  have d1 := blk_cell hR.out 1
  have d2 := blk_cell hR.out 2
  have d3 := blk_cell hR.out 3
  have d4 := blk_cell hR.out 4
  simp at d0 d1 d2 d3 d4
  clear hb1
  go_wp2_with fail
  refine (ref_RequestMay _ _ _ _ _ _ _ HQ.out).mono ?_
  rintro e w2 ⟨rfl, hb2⟩
  have B2 := Lib.hid (B1.out.trans (hb2.mono B1.out.size))
  have hN2 := Lib.hid (blk_below hb2 hN.out (lt_of_block hN.out))
  have hR2 := Lib.hid (blk_below hb2 hR.out (lt_of_block hR.out))
  have hBk2 := Lib.hid (blk_below hb2 hBk.out (lt_of_block hBk.out))
  have s2 := hb2.size
  have b0 := blk_cell hBk2.out 0
  have b1 := blk_cell hBk2.out 1
  have lb := lt_of_block hBk2.out
  simp at b0 b1
  clear hb2 d0 d1 d2 d3 d4 hN hR hBk B1
  go_wp2_with (go_at_call 31; first | (refine (In_yes _ _ _ _ (by omega) (by omega)).mono ?_; rintro e w' ⟨rfl, rfl⟩) | (refine (In_no _ _ _ _ (by omega)).mono ?_; rintro e w' ⟨rfl, rfl⟩))
  --M copy
  refine (ref_BookCopyO _ _ L R _ (RowAt_below HL.out B2.out) (RowAt_below HR.out B2.out) n1 n2).mono ?_
  rintro e w3 ⟨v1, v2, rfl, o1, o2, dis, hb3⟩
  obtain ⟨a1, c1, rfl, _⟩ := owns_shape o1
  obtain ⟨a2, c2, rfl, _⟩ := owns_shape o2
  have s3 := hb3.size
  have K1 : BkG 25 (w.heap.size + 3) (w3.alloc (.cells #[.slice a1 L.length c1, .slice a2 R.length c2] 25)) w3.heap.size (.slice a1 L.length c1) (.slice a2 R.length c2) L R := ⟨by omega, heap_at _ rfl, own_rebase (own_keep o1 ((Below.refl _ _).alloc (Nat.le_refl _) _)) (by omega), own_rebase (own_keep o2 ((Below.refl _ _).alloc (Nat.le_refl _) _)) (by omega), fun b hb => (o1.lt b hb).2, fun b hb => (o2.lt b hb).2, dis⟩
  have A0 : Hid (AqW w (w3.alloc (.cells #[.slice a1 L.length c1, .slice a2 R.length c2] 25)) w3.heap.size (.slice a L.length c) (.slice a' R.length c') (.slice a1 L.length c1) (.slice a2 R.length c2) L R id kd bk wt an) := ⟨(B2.out.trans (hb3.mono (by omega))).alloc (by omega) _, (Below.heap_alloc _ _ _ (by omega)).trans (blk_below hb3 hBk2.out (by omega)), (Below.heap_alloc _ _ _ (by omega)).trans (blk_below hb3 hR2.out (by omega)), (Below.heap_alloc _ _ _ (by omega)).trans (blk_below hb3 hN2.out (by omega)), K1⟩
  clear K1 o1 o2 dis hb3 b0 b1 lb hN2 hR2 hBk2 B2
  go_wp2_with fail
  obtain ⟨p, hpp⟩ : ∃ p, p = w3.heap.size := ⟨_, rfl⟩
  rw [← hpp] at A0 ⊢
  clear hpp s1 s2 s3
  --M loop
  go_loopw [14] (fun i wr => ∃ k : Nat, k ≤ R.length ∧ i = .int .i64 k ∧ AqW w wr p (.slice a L.length c) (.slice a' R.length c') (.slice a1 L.length c1) (.slice a2 R.length c2) L R id kd bk wt an ∧ (∀ x ∈ R.take k, rqIs id x = false)) (fun i _ => R.length - (intOf i).toNat)
  case atStart => exact ⟨0, Nat.zero_le _, rfl, A0.out, by simp⟩
  case round =>
    clear A0
    obtain ⟨k, hk, rfl, hA, hno⟩ := hrel
    have A := Lib.hid hA
    have hBp := hA.k.hB
    have b0 := blk_cell hA.hb 0
    have b1 := blk_cell hA.hb 1
    have e0 := blk_cell hA.hr 0
    have e1 := blk_cell hA.hr 1
    have e2 := blk_cell hA.hr 2
    have e3 := blk_cell hA.hr 3
    have e4 := blk_cell hA.hr 4
    have lp := hA.k.lt
    simp at b0 b1 e0 e1 e2 e3 e4
    rcases (show k < R.length ∨ R.length = k by omega) with hlt | heq
    · have hlt' : (k : Int) < (R.length : Int) := by omega
      obtain ⟨bb, bo, rfl, hbb, q⟩ := PR.out (by intro h; rw [h] at hlt; simp at hlt)
      obtain ⟨y, hx⟩ : ∃ x, x = R.getD k Rq.zero := ⟨_, rfl⟩
      have HX := Lib.hid hx
      have p0 : (0 : Int) ≤ (k : Int) := by omega
      have hold : ∀ j, j < 5 → wr.cell? ⟨bb, bo + k * 5 + j, none⟩ = (Rq.cells y)[j]? := fun j hj => by
        rw [hA.bel.cell (p := ⟨bb, bo + k * 5 + j, none⟩) hbb, HX.out]; exact q k j hlt hj
      obtain ⟨y0, y1, y2, y3, y4⟩ := y
      have z0 := hold 0 (by omega)
      have z4 := hold 4 (by omega)
      simp only [Rq.cells, List.getElem?_cons_zero, List.getElem?_cons_succ, Nat.add_zero] at z0 z4
      clear hold hx q hA
      have e5 : w.heap.size ≠ bb := by omega
      by_cases hyn : y0 = id
      rotate_left
      · have hy : (y0 == id) = false := by rw [beq_eq_false_iff_ne]; exact hyn
        have hno' := Lib.hid (idx_step (p := rqIs id) hlt HX.out (show rqIs id _ = false from hy) hno)
        clear hno hyn
        --M miss
        go_wp2_with fail
        go_quiet (fail)
        have AZ := Lib.hid (A.out.below (Below_drewN (n := nq) (Below.refl _ _)))
        clear b0 b1 e0 e1 e2 e3 e4 z0 z4 A lp
        generalize wr.drewN nq = wy at AZ ⊢
        go_wp2
        go_roundw
        case rel => exact ⟨k + 1, by omega, by go_num, AZ.out, hno'.out⟩
        case measure => simp [intOf]; omega
      · subst hyn
        have hyt : (y0 == y0) = true := by simp
        have hkq : k = q := by
          have h1 := idxOf_hit (p := rqIs y0) hlt HX.out (show rqIs y0 _ = true from hyt) hno
          have h2 := HE.out
          rw [h1] at h2
          omega
        have han : Hid ((R.getD q Rq.zero).answer = y4) := by show _ = _; rw [← hkq, ← HX.out]
        rw [han.out]
        clear hno hkq
        --M hit
        go_wp2_with fail
        go_quiet (fail)
        have AZ := Lib.hid (A.out.below (Below_drewN (n := nq) (Below.refl _ _)))
        have zz0 := cell_drewN nq z0
        have zz4 := cell_drewN nq z4
        clear b0 b1 e0 e1 e2 e3 e4 z0 z4 A lp
        generalize wr.drewN nq = wy at AZ zz0 zz4 ⊢
        have b0 := blk_cell AZ.out.hb 0
        have b1 := blk_cell AZ.out.hb 1
        have p0' := blk_cell AZ.out.k.hh 0
        have p1' := blk_cell AZ.out.k.hh 1
        have lp := AZ.out.k.lt
        have ne1 : w.heap.size + 1 + 1 ≠ p := by omega
        have ne2 : w.heap.size + 1 + 1 ≠ bb := by omega
        have ne3 : w.heap.size + 1 + 1 ≠ w.heap.size := by omega
        simp at b0 b1 p0' p1'
        have n0 := blk_cell AZ.out.hn 0
        have n1' := blk_cell AZ.out.hn 1
        have g0 := blk_free AZ.out.hn 0
        have g1 := blk_free AZ.out.hn 1
        have lnn := lt_of_block AZ.out.hn
        simp at n0 n1'
        have F1 := Lib.hid AZ.out.k.r1
        have F2 := Lib.hid AZ.out.k.r2
        go_wp2_with fail
        go_region
        all_goals go_wp2
        all_goals (refine bodyPost_ret (v := .tuple #[.agg #[(.slice a1 L.length c1), (.slice a2 R.length c2)], .int .i64 y4, .bool false, .int .i64 0]) ?_ rfl ⟨_, _, rfl, (RowNew_setCell (RowNew_setCell F1.out (p := ⟨w.heap.size + 1 + 1, 0, none⟩) (by show w.heap.size + 1 + 1 < w.heap.size + 3; omega) _) (p := ⟨w.heap.size + 1 + 1, 1, none⟩) (by show w.heap.size + 1 + 1 < w.heap.size + 3; omega) _).1, (RowNew_setCell (RowNew_setCell F2.out (p := ⟨w.heap.size + 1 + 1, 0, none⟩) (by show w.heap.size + 1 + 1 < w.heap.size + 3; omega) _) (p := ⟨w.heap.size + 1 + 1, 1, none⟩) (by show w.heap.size + 1 + 1 < w.heap.size + 3; omega) _).1, ((AZ.out.bel.setCell (by show _ ≤ w.heap.size + 1 + 1; omega) _).setCell (by show _ ≤ w.heap.size + 1 + 1; omega) _).drew⟩; simp [results, Try.results12, go_sem, *])
    · exfalso
      have := idxOf_none (p := rqIs id) heq hno
      rw [HE.out] at this
      omega

set_option maxHeartbeats 16000000 in
set_option maxRecDepth 100000 in
theorem ref_Asked_full (vl vr : Value) (L : List Lf) (R : List Rq) (id kd bk wt an now drain : Int) (w : World) (hl : RowAt w 6 vl (L.map Lf.cells)) (hr : RowAt w 5 vr (R.map Rq.cells)) (h : BkMay L R) (hn : AkMay ⟨id, kd, bk, wt, an⟩ now drain) (he : idxOf (rqIs id) R = -1) (hf : R.length = 100) :
    Calls Try.prog 12 #[.agg #[vl, vr], .agg #[.int .i64 id, .int .i64 kd, .int .i64 bk, .int .i64 wt, .int .i64 an], .int .i64 now, .int .i64 drain] w (AkPost w L R 9 false 0) := by
  have HE := Lib.hid he
  have HNO := Lib.hid (idxOf_no he)
  have HF := Lib.hid hf
  clear he hf
  have HL := Lib.hid hl
  have HR := Lib.hid hr
  have H : Hid (BkCode L R 0) := Or.inl ⟨h, rfl⟩
  have HM := Lib.hid h
  have h12 := h.1
  have h100 := h.2.1
  have n1 : L.length * 48 ≤ 140737488351232 := by omega
  have n2 : R.length * 40 ≤ 140737488351232 := by omega
  have HQ : Hid (RqQ ⟨id, kd, bk, wt, an⟩ true) := Or.inl ⟨hn.1, rfl⟩
  obtain ⟨_, ⟨r0, r1⟩, r2, r3⟩ := hn
  obtain ⟨a, c, rfl, _, _, _, pl⟩ := RowAt_fn Lf.zero hl
  obtain ⟨a', c', rfl, _, _, _, pr⟩ := RowAt_fn Rq.zero hr
  have PL := Lib.hid pl
  have PR := Lib.hid pr
  clear hl hr h pl pr
  go_enter Try.func12, Try.ntmps12
  go_wp2_with fail
  refine (ref_BookFault _ _ L R 0 _ (RowAt_alloc (RowAt_alloc (RowAt_alloc HL.out _) _) _) (RowAt_alloc (RowAt_alloc (RowAt_alloc HR.out _) _) _) H.out).mono ?_
  rintro e w1 ⟨rfl, hb1⟩
  have B1 := Lib.hid ((((((Below.refl w.heap.size w).alloc (Nat.le_refl _) (.cells #[.slice a L.length c, .slice a' R.length c'] 25)).alloc (by simp) (.cells #[.int .i64 id, .int .i64 kd, .int .i64 bk, .int .i64 wt, .int .i64 an] 31)).alloc (by first | omega | (simp; done) | (simp; omega)) (.cells #[.slice none 0 0, .slice none 0 0] 25))).trans (hb1.mono (by first | omega | (simp; done) | (simp; omega))))
  have hN := Lib.hid (blk_below hb1 (heap_at (w := World.alloc (World.alloc w _) _) (k := w.heap.size + 1 + 1) (.cells #[.slice none 0 0, .slice none 0 0] 25) (by simp)) (by simp)); have hR := Lib.hid (blk_below hb1 ((Below.heap_alloc (w := World.alloc (World.alloc w _) _) (.cells #[.slice none 0 0, .slice none 0 0] 25) (w.heap.size + 1) (by simp)).trans (heap_at (w := World.alloc w _) (k := w.heap.size + 1) (.cells #[.int .i64 id, .int .i64 kd, .int .i64 bk, .int .i64 wt, .int .i64 an] 31) (by simp))) (by first | omega | (simp; done) | (simp; omega)))
  have hBk : Hid (w1.heap[w.heap.size]? = some (.cells #[.slice a L.length c, .slice a' R.length c'] 25 (0, 0))) := blk_below hb1 ((Below.heap_alloc (w := World.alloc (World.alloc w _) _) (.cells #[.slice none 0 0, .slice none 0 0] 25) w.heap.size (by first | omega | (simp; done) | (simp; omega))).trans ((Below.heap_alloc (w := World.alloc w _) (.cells #[.int .i64 id, .int .i64 kd, .int .i64 bk, .int .i64 wt, .int .i64 an] 31) w.heap.size (by first | omega | (simp; done) | (simp; omega))).trans (heap_at (w := w) (k := w.heap.size) (.cells #[.slice a L.length c, .slice a' R.length c'] 25) rfl))) (by first | omega | (simp; done) | (simp; omega))
  have s1 := hb1.size
  simp at s1
  have d0 := blk_cell hR.out 0
  have d1 := blk_cell hR.out 1
  have d2 := blk_cell hR.out 2
  have d3 := blk_cell hR.out 3
  have d4 := blk_cell hR.out 4
  simp at d0 d1 d2 d3 d4
  clear hb1
  go_wp2_with fail
  refine (ref_RequestMay _ _ _ _ _ _ _ HQ.out).mono ?_
  rintro e w2 ⟨rfl, hb2⟩
  have B2 := Lib.hid (B1.out.trans (hb2.mono B1.out.size))
  have hN2 := Lib.hid (blk_below hb2 hN.out (lt_of_block hN.out))
  have hR2 := Lib.hid (blk_below hb2 hR.out (lt_of_block hR.out))
  have hBk2 := Lib.hid (blk_below hb2 hBk.out (lt_of_block hBk.out))
  have s2 := hb2.size
  have b0 := blk_cell hBk2.out 0
  have b1 := blk_cell hBk2.out 1
  have lb := lt_of_block hBk2.out
  simp at b0 b1
  clear hb2 d0 d1 d2 d3 d4 hN hR hBk B1
  go_wp2_with (go_at_call 31; first | (refine (In_yes _ _ _ _ (by omega) (by omega)).mono ?_; rintro e w' ⟨rfl, rfl⟩) | (refine (In_no _ _ _ _ (by omega)).mono ?_; rintro e w' ⟨rfl, rfl⟩))
  --M copy
  refine (ref_BookCopyO _ _ L R _ (RowAt_below HL.out B2.out) (RowAt_below HR.out B2.out) n1 n2).mono ?_
  rintro e w3 ⟨v1, v2, rfl, o1, o2, dis, hb3⟩
  obtain ⟨a1, c1, rfl, _⟩ := owns_shape o1
  obtain ⟨a2, c2, rfl, _⟩ := owns_shape o2
  have s3 := hb3.size
  have K1 : BkG 25 (w.heap.size + 3) (w3.alloc (.cells #[.slice a1 L.length c1, .slice a2 R.length c2] 25)) w3.heap.size (.slice a1 L.length c1) (.slice a2 R.length c2) L R := ⟨by omega, heap_at _ rfl, own_rebase (own_keep o1 ((Below.refl _ _).alloc (Nat.le_refl _) _)) (by omega), own_rebase (own_keep o2 ((Below.refl _ _).alloc (Nat.le_refl _) _)) (by omega), fun b hb => (o1.lt b hb).2, fun b hb => (o2.lt b hb).2, dis⟩
  have A0 : Hid (AqW w (w3.alloc (.cells #[.slice a1 L.length c1, .slice a2 R.length c2] 25)) w3.heap.size (.slice a L.length c) (.slice a' R.length c') (.slice a1 L.length c1) (.slice a2 R.length c2) L R id kd bk wt an) := ⟨(B2.out.trans (hb3.mono (by omega))).alloc (by omega) _, (Below.heap_alloc _ _ _ (by omega)).trans (blk_below hb3 hBk2.out (by omega)), (Below.heap_alloc _ _ _ (by omega)).trans (blk_below hb3 hR2.out (by omega)), (Below.heap_alloc _ _ _ (by omega)).trans (blk_below hb3 hN2.out (by omega)), K1⟩
  clear K1 o1 o2 dis hb3 b0 b1 lb hN2 hR2 hBk2 B2
  go_wp2_with fail
  obtain ⟨p, hpp⟩ : ∃ p, p = w3.heap.size := ⟨_, rfl⟩
  rw [← hpp] at A0 ⊢
  clear hpp s1 s2 s3
  --M loop
  go_loopw [14] (fun i wr => ∃ k : Nat, k ≤ R.length ∧ i = .int .i64 k ∧ AqW w wr p (.slice a L.length c) (.slice a' R.length c') (.slice a1 L.length c1) (.slice a2 R.length c2) L R id kd bk wt an ∧ (∀ x ∈ R.take k, rqIs id x = false)) (fun i _ => R.length - (intOf i).toNat)
  case atStart => exact ⟨0, Nat.zero_le _, rfl, A0.out, by simp⟩
  case round =>
    clear A0
    obtain ⟨k, hk, rfl, hA, hno⟩ := hrel
    have A := Lib.hid hA
    have hBp := hA.k.hB
    have b0 := blk_cell hA.hb 0
    have b1 := blk_cell hA.hb 1
    have e0 := blk_cell hA.hr 0
    have e1 := blk_cell hA.hr 1
    have e2 := blk_cell hA.hr 2
    have e3 := blk_cell hA.hr 3
    have e4 := blk_cell hA.hr 4
    have lp := hA.k.lt
    simp at b0 b1 e0 e1 e2 e3 e4
    rcases (show k < R.length ∨ R.length = k by omega) with hlt | heq
    · have hlt' : (k : Int) < (R.length : Int) := by omega
      obtain ⟨bb, bo, rfl, hbb, q⟩ := PR.out (by intro h; rw [h] at hlt; simp at hlt)
      obtain ⟨y, hx⟩ : ∃ x, x = R.getD k Rq.zero := ⟨_, rfl⟩
      have HX := Lib.hid hx
      have p0 : (0 : Int) ≤ (k : Int) := by omega
      have hold : ∀ j, j < 5 → wr.cell? ⟨bb, bo + k * 5 + j, none⟩ = (Rq.cells y)[j]? := fun j hj => by
        rw [hA.bel.cell (p := ⟨bb, bo + k * 5 + j, none⟩) hbb, HX.out]; exact q k j hlt hj
      obtain ⟨y0, y1, y2, y3, y4⟩ := y
      have z0 := hold 0 (by omega)
      have z4 := hold 4 (by omega)
      simp only [Rq.cells, List.getElem?_cons_zero, List.getElem?_cons_succ, Nat.add_zero] at z0 z4
      clear hold hx q hA
      have e5 : w.heap.size ≠ bb := by omega
      by_cases hyn : y0 = id
      rotate_left
      · have hy : (y0 == id) = false := by rw [beq_eq_false_iff_ne]; exact hyn
        have hno' := Lib.hid (idx_step (p := rqIs id) hlt HX.out (show rqIs id _ = false from hy) hno)
        clear hno hyn
        --M miss
        go_wp2_with fail
        go_quiet (fail)
        have AZ := Lib.hid (A.out.below (Below_drewN (n := nq) (Below.refl _ _)))
        clear b0 b1 e0 e1 e2 e3 e4 z0 z4 A lp
        generalize wr.drewN nq = wy at AZ ⊢
        go_wp2
        go_roundw
        case rel => exact ⟨k + 1, by omega, by go_num, AZ.out, hno'.out⟩
        case measure => simp [intOf]; omega
      · exfalso
        have := HNO.out _ (show R.getD k Rq.zero ∈ R by simp [List.getD, hlt])
        rw [← HX.out] at this
        simp [rqIs, hyn] at this
    · have hge : ¬ (k : Int) < (R.length : Int) := by omega
      have hfe : ((R.length : Int) == 100) = true := by rw [beq_iff_eq]; have := HF.out; omega
      have p0' := blk_cell hA.k.hh 0
      have p1' := blk_cell hA.k.hh 1
      simp at p0' p1'
      have ne1 : w.heap.size + 1 + 1 ≠ p := by omega
      have ne2 : w.heap.size + 1 ≠ p := by omega
      have n0 := blk_cell hA.hn 0
      have n1' := blk_cell hA.hn 1
      have g0 := blk_free hA.hn 0
      have g1 := blk_free hA.hn 1
      have lnn := lt_of_block hA.hn
      simp at n0 n1'
      have F1 := Lib.hid hA.k.r1
      have F2 := Lib.hid hA.k.r2
      clear hA hno heq
      --M full
      go_wp2
      all_goals (refine bodyPost_ret (v := .tuple #[.agg #[(.slice a1 L.length c1), (.slice a2 R.length c2)], .int .i64 9, .bool false, .int .i64 0]) ?_ rfl ⟨_, _, rfl, (RowNew_setCell (RowNew_setCell F1.out (p := ⟨w.heap.size + 1 + 1, 0, none⟩) (by show w.heap.size + 1 + 1 < w.heap.size + 3; omega) _) (p := ⟨w.heap.size + 1 + 1, 1, none⟩) (by show w.heap.size + 1 + 1 < w.heap.size + 3; omega) _).1, (RowNew_setCell (RowNew_setCell F2.out (p := ⟨w.heap.size + 1 + 1, 0, none⟩) (by show w.heap.size + 1 + 1 < w.heap.size + 3; omega) _) (p := ⟨w.heap.size + 1 + 1, 1, none⟩) (by show w.heap.size + 1 + 1 < w.heap.size + 3; omega) _).1, ((A.out.bel.setCell (by show _ ≤ w.heap.size + 1 + 1; omega) _).setCell (by show _ ≤ w.heap.size + 1 + 1; omega) _)⟩; simp [results, Try.results12, go_sem, *])
end Go.Proofs.Ythngedmmeiiklaa
