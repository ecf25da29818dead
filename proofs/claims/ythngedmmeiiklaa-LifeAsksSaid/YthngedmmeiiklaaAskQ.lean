/- life.Ask: the roads on which the request is there already, or the book is full. -/
import Derived.Test.YthngedmmeiiklaaAskP
import Derived.BigRegion
namespace Go.Proofs.Ythngedmmeiiklaa
open Go.RowKit

def rqIs (id : Int) (x : Rq) : Bool := x.id == id
set_option maxRecDepth 100000 in
theorem ask1 (x : Rq) (b : Nat) (id : Int) (w : World) (h : w.cell? ⟨b, 0, none⟩ = some (.int .i64 id)) : Calls Try.prog 28 #[Rq.agg x, .pointer (some ⟨b, 0, none⟩)] w fun e w' => e = .returned (.bool (rqIs id x)) ∧ Below w.heap.size w w' := by
  obtain ⟨x0, x1, x2, x3, x4⟩ := x
  have lb := cell_lt h
  unfold Rq.agg rqIs
  go_enter Try.func28, Try.ntmps28
  go_wp2
  all_goals first | (go_ret; exact ⟨rfl, (by repeat (first | (with_reducible exact Below.refl _ _) | (with_reducible assumption) | (with_reducible refine Below.drew ?_) | (with_reducible refine Below_drewN ?_) | (with_reducible refine Below.alloc ?_ (by first | omega | (simp; done) | (simp; omega)) _) | (with_reducible refine Below.setCell ?_ (by first | omega | (simp; done) | (simp; omega)) _) | (with_reducible refine Below.trans ?_ (Below.mono (by assumption) (by first | omega | (simp; done) | (simp; omega))))))⟩) | (exfalso; first | omega | (simp at *; omega) | (simp at *; done))
theorem BkAt.addr2 {B : Nat} {w : World} {p : Nat} {v1 v2 : Value} {L : List Lf} {R : List Rq} (h : BkAt B w p v1 v2 L R) {i : Nat} (hi : i < R.length) : ∃ g cap, v2 = .slice (some ⟨g, 0, none⟩) R.length cap ∧ B ≤ g ∧ g < p := by
  rcases h.o2.2 with ⟨_, h0⟩ | ⟨gg, cap, cur, e, h1, h2, _⟩
  · omega
  · exact ⟨gg, cap, e, h1, h.l2 gg (by rw [e]; rfl)⟩
theorem BkAt.cell2 {B : Nat} {w : World} {p g n cap : Nat} {v1 : Value} {L : List Lf} {R : List Rq} (h : BkAt B w p v1 (.slice (some ⟨g, 0, none⟩) n cap) L R) {i j : Nat} (hi : i < R.length) (hj : j < 5) : w.cell? ⟨g, i * 5 + j, none⟩ = ((R.getD i Rq.zero).cells)[j]? := by
  have h1 := h.o2
  have e : n = R.length := by
    rcases h1.2 with ⟨e, _⟩ | ⟨_, _, _, e, _⟩
    · cases e
    · simp only [Value.slice.injEq] at e; exact e.2.1
  subst e
  have hl : i * 5 + j < R.length * 5 := by have : (i + 1) * 5 ≤ R.length * 5 := Nat.mul_le_mul_right _ (by omega); omega
  rw [h1.cellAt _ hl, flatten_get (lenb_Rq R) i j (by simpa using hi) hj]
  simp [List.getD, hi]

set_option maxHeartbeats 8000000 in
set_option maxRecDepth 100000 in
theorem prog_Ask_old (vl vr : Value) (L : List Lf) (R : List Rq) (id kd bk wt an now drain : Int) (q : Nat) (w : World) (hl : RowAt w 6 vl (L.map Lf.cells)) (hr : RowAt w 5 vr (R.map Rq.cells)) (h : BkMay L R) (hn : AkMay ⟨id, kd, bk, wt, an⟩ now drain) (hq : q < R.length) (he : idxOf (rqIs id) R = q) :
    Calls Try.prog 11 #[.agg #[vl, vr], .agg #[.int .i64 id, .int .i64 kd, .int .i64 bk, .int .i64 wt, .int .i64 an], .int .i64 now, .int .i64 drain] w (AkPost w L R (R.getD q Rq.zero).answer false 0) := by
  have HL := Lib.hid hl; have HR := Lib.hid hr; have H := Lib.hid h; have hR100 := h.2.1; obtain ⟨a, c, rfl, _⟩ := RowAt_shape hl; obtain ⟨a', c', rfl, _⟩ := RowAt_shape hr; have HQ : Hid (RqQ ⟨id, kd, bk, wt, an⟩ true) := Or.inl ⟨hn.1, rfl⟩; obtain ⟨_, ⟨h0, h1⟩, h2, h3⟩ := hn; clear hl hr h
  have HE := Lib.hid he
  obtain ⟨s, hs⟩ : ∃ s, s = R.getD q Rq.zero := ⟨_, rfl⟩
  rw [← hs]
  have HSg := Lib.hid hs
  obtain ⟨s0, s1, s2', s3, s4⟩ := s
  clear he hs
  go_enter Try.func11, Try.ntmps11
  go_wp2_with fail; refine (prog_open_ok _ _ L R _ (RowAt_alloc (RowAt_alloc (RowAt_alloc HL.out _) _) _) (RowAt_alloc (RowAt_alloc (RowAt_alloc HR.out _) _) _) H.out).mono ?_; rintro e w1 ⟨p, v1, v2, rfl, K1, hb1⟩
  have B1 := Lib.hid ((((((Below.refl w.heap.size w).alloc (Nat.le_refl _) (.cells #[.slice a L.length c, .slice a' R.length c'] 25)).alloc (by simp) (.cells #[.int .i64 id, .int .i64 kd, .int .i64 bk, .int .i64 wt, .int .i64 an] 31)).alloc (by first | omega | (simp; done) | (simp; omega)) (.cells #[.slice none 0 0, .slice none 0 0] 25))).trans (hb1.mono (by first | omega | (simp; done) | (simp; omega)))); have hN := Lib.hid (blk_below hb1 (heap_at (w := World.alloc (World.alloc w _) _) (k := w.heap.size + 1 + 1) (.cells #[.slice none 0 0, .slice none 0 0] 25) (by simp)) (by simp)); have hR := Lib.hid (blk_below hb1 ((Below.heap_alloc (w := World.alloc (World.alloc w _) _) (.cells #[.slice none 0 0, .slice none 0 0] 25) (w.heap.size + 1) (by simp)).trans (heap_at (w := World.alloc w _) (k := w.heap.size + 1) (.cells #[.int .i64 id, .int .i64 kd, .int .i64 bk, .int .i64 wt, .int .i64 an] 31) (by simp))) (by first | omega | (simp; done) | (simp; omega))); have K1' := Lib.hid K1; have hBp := K1.hB; have lp1 := K1.lt; simp at hBp; clear K1 hb1
  have d0 := blk_cell hR.out 0; have d1 := blk_cell hR.out 1; have d2 := blk_cell hR.out 2; have d3 := blk_cell hR.out 3; have d4 := blk_cell hR.out 4; simp at d0 d1 d2 d3 d4
  go_wp2_with fail; refine (prog_request _ _ _ _ _ _ _ HQ.out).mono ?_; rintro e w2 ⟨rfl, hb2⟩
  have B2 := Lib.hid (B1.out.trans (hb2.mono B1.out.size)); have lN := lt_of_block hN.out; have hN2 := Lib.hid (blk_below hb2 hN.out lN); have hR2 := Lib.hid (blk_below hb2 hR.out (lt_of_block hR.out)); have K2 := Lib.hid (K1'.out.below hb2); have s2 := hb2.size; clear hb2 d0 d1 d2 d3 d4; have p0 := blk_cell K2.out.hh 0; have p1 := blk_cell K2.out.hh 1; have lp2 := K2.out.lt; have r20 := blk_cell hR2.out 0; have lr2 := lt_of_block hR2.out; simp at p0 p1 r20
  have RR2 := Lib.hid K2.out.r2.1
  obtain ⟨g, cap, rfl, hg1, hg2⟩ := K2.out.addr2 hq
  obtain ⟨x1, y1, rfl, _⟩ := owns_shape K2.out.o1
  simp at hg1
  go_wp2_with fail
  refine (ixcRq_any 28 ⟨w.heap.size + 1, 0, none⟩ (fun _ _ => rfl) (rqIs id) _ R _ RR2.out (by omega) (fun x _ w' hb' => ask1 x _ id w' (cell_below' hb' r20))).mono ?_
  rintro e w3 ⟨rfl, hb3⟩
  rw [HE.out]
  have K3 := Lib.hid (K2.out.below hb3)
  have B3' := Lib.hid (B2.out.trans (hb3.mono B2.out.size))
  have hN3 := blk_below hb3 hN2.out (lt_of_block hN2.out)
  have s3 := hb3.size
  have n0 := blk_cell hN3 0
  have n1 := blk_cell hN3 1
  have g0 := blk_free hN3 0
  have g1 := blk_free hN3 1
  have lN3 := lt_of_block hN3
  simp at n0 n1
  have p30 := blk_cell K3.out.hh 0
  have p31 := blk_cell K3.out.hh 1
  have lp3 := K3.out.lt
  simp at p30 p31
  have z4 := K3.out.cell2 hq (j := 4) (by omega)
  rw [← HSg.out] at z4
  simp [Rq.cells] at z4
  have hqi : (q : Int) < (R.length : Int) := by omega
  have hq0 : (0 : Int) ≤ (q : Int) := by omega
  have ne1 : w.heap.size + 1 + 1 ≠ p := by omega
  have ne2 : w.heap.size + 1 + 1 ≠ g := by omega
  clear hb3 hN3 p0 p1 r20 hR2 RR2
  go_wp2_with fail
  go_region
  all_goals go_wp2
  all_goals (refine bodyPost_ret (v := .tuple #[.agg #[.slice x1 L.length y1, .slice (some ⟨g, 0, none⟩) R.length cap], .int .i64 s4, .bool false, .int .i64 0]) ?_ rfl ⟨_, _, rfl, (RowNew_setCell (RowNew_setCell K3.out.r1 (by simp) _) (by simp) _).1, (RowNew_setCell (RowNew_setCell K3.out.r2 (by simp) _) (by simp) _).1, ((B3'.out.setCell (by simp; omega) _).setCell (by simp; omega) _).drew⟩; simp [results, Try.results11, go_sem, *])

set_option maxHeartbeats 8000000 in
set_option maxRecDepth 100000 in
theorem prog_Ask_full (vl vr : Value) (L : List Lf) (R : List Rq) (id kd bk wt an now drain : Int) (w : World) (hl : RowAt w 6 vl (L.map Lf.cells)) (hr : RowAt w 5 vr (R.map Rq.cells)) (h : BkMay L R) (hn : AkMay ⟨id, kd, bk, wt, an⟩ now drain) (he : idxOf (rqIs id) R = -1) (hf : R.length = 100) :
    Calls Try.prog 11 #[.agg #[vl, vr], .agg #[.int .i64 id, .int .i64 kd, .int .i64 bk, .int .i64 wt, .int .i64 an], .int .i64 now, .int .i64 drain] w (AkPost w L R 9 false 0) := by
  have HL := Lib.hid hl; have HR := Lib.hid hr; have H := Lib.hid h; have hR100 := h.2.1; obtain ⟨a, c, rfl, _⟩ := RowAt_shape hl; obtain ⟨a', c', rfl, _⟩ := RowAt_shape hr; have HQ : Hid (RqQ ⟨id, kd, bk, wt, an⟩ true) := Or.inl ⟨hn.1, rfl⟩; obtain ⟨_, ⟨h0, h1⟩, h2, h3⟩ := hn; clear hl hr h
  have HE := Lib.hid he
  have HF := Lib.hid hf
  have hfe : ((R.length : Int) == 100) = true := by rw [beq_iff_eq]; omega
  clear he hf
  go_enter Try.func11, Try.ntmps11
  go_wp2_with fail; refine (prog_open_ok _ _ L R _ (RowAt_alloc (RowAt_alloc (RowAt_alloc HL.out _) _) _) (RowAt_alloc (RowAt_alloc (RowAt_alloc HR.out _) _) _) H.out).mono ?_; rintro e w1 ⟨p, v1, v2, rfl, K1, hb1⟩
  have B1 := Lib.hid ((((((Below.refl w.heap.size w).alloc (Nat.le_refl _) (.cells #[.slice a L.length c, .slice a' R.length c'] 25)).alloc (by simp) (.cells #[.int .i64 id, .int .i64 kd, .int .i64 bk, .int .i64 wt, .int .i64 an] 31)).alloc (by first | omega | (simp; done) | (simp; omega)) (.cells #[.slice none 0 0, .slice none 0 0] 25))).trans (hb1.mono (by first | omega | (simp; done) | (simp; omega)))); have hN := Lib.hid (blk_below hb1 (heap_at (w := World.alloc (World.alloc w _) _) (k := w.heap.size + 1 + 1) (.cells #[.slice none 0 0, .slice none 0 0] 25) (by simp)) (by simp)); have hR := Lib.hid (blk_below hb1 ((Below.heap_alloc (w := World.alloc (World.alloc w _) _) (.cells #[.slice none 0 0, .slice none 0 0] 25) (w.heap.size + 1) (by simp)).trans (heap_at (w := World.alloc w _) (k := w.heap.size + 1) (.cells #[.int .i64 id, .int .i64 kd, .int .i64 bk, .int .i64 wt, .int .i64 an] 31) (by simp))) (by first | omega | (simp; done) | (simp; omega))); have K1' := Lib.hid K1; have hBp := K1.hB; have lp1 := K1.lt; simp at hBp; clear K1 hb1
  have d0 := blk_cell hR.out 0; have d1 := blk_cell hR.out 1; have d2 := blk_cell hR.out 2; have d3 := blk_cell hR.out 3; have d4 := blk_cell hR.out 4; simp at d0 d1 d2 d3 d4
  go_wp2_with fail; refine (prog_request _ _ _ _ _ _ _ HQ.out).mono ?_; rintro e w2 ⟨rfl, hb2⟩
  have B2 := Lib.hid (B1.out.trans (hb2.mono B1.out.size)); have lN := lt_of_block hN.out; have hN2 := Lib.hid (blk_below hb2 hN.out lN); have hR2 := Lib.hid (blk_below hb2 hR.out (lt_of_block hR.out)); have K2 := Lib.hid (K1'.out.below hb2); have s2 := hb2.size; clear hb2 d0 d1 d2 d3 d4; have p0 := blk_cell K2.out.hh 0; have p1 := blk_cell K2.out.hh 1; have lp2 := K2.out.lt; have r20 := blk_cell hR2.out 0; have lr2 := lt_of_block hR2.out; simp at p0 p1 r20
  have RR2 := Lib.hid K2.out.r2.1
  obtain ⟨x1, y1, rfl, _⟩ := owns_shape K2.out.o1
  obtain ⟨x2, y2, rfl, _⟩ := owns_shape K2.out.o2
  go_wp2_with fail
  refine (ixcRq_any 28 ⟨w.heap.size + 1, 0, none⟩ (fun _ _ => rfl) (rqIs id) _ R _ RR2.out (by omega) (fun x _ w' hb' => ask1 x _ id w' (cell_below' hb' r20))).mono ?_
  rintro e w3 ⟨rfl, hb3⟩
  rw [HE.out]
  have K3 := Lib.hid (K2.out.below hb3)
  have B3' := Lib.hid (B2.out.trans (hb3.mono B2.out.size))
  have hN3 := blk_below hb3 hN2.out (lt_of_block hN2.out)
  have s3 := hb3.size
  have n0 := blk_cell hN3 0
  have n1 := blk_cell hN3 1
  have g0 := blk_free hN3 0
  have g1 := blk_free hN3 1
  have lN3 := lt_of_block hN3
  simp at n0 n1
  have p30 := blk_cell K3.out.hh 0
  have p31 := blk_cell K3.out.hh 1
  have lp3 := K3.out.lt
  simp at p30 p31
  have ne1 : w.heap.size + 1 + 1 ≠ p := by omega
  clear hb3 hN3 p0 p1 r20 hR2 RR2
  go_wp2
  all_goals (refine bodyPost_ret (v := .tuple #[.agg #[.slice x1 L.length y1, .slice x2 R.length y2], .int .i64 9, .bool false, .int .i64 0]) ?_ rfl ⟨_, _, rfl, (RowNew_setCell (RowNew_setCell K3.out.r1 (by simp) _) (by simp) _).1, (RowNew_setCell (RowNew_setCell K3.out.r2 (by simp) _) (by simp) _).1, ((B3'.out.setCell (by simp; omega) _).setCell (by simp; omega) _)⟩; simp [results, Try.results11, go_sem, *])
end Go.Proofs.Ythngedmmeiiklaa
